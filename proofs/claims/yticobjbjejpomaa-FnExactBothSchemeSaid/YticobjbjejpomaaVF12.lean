/- Walks. -/
import Derived.Test.YticobjbjejpomaaVF11
set_option linter.unusedVariables false
set_option linter.unusedSimpArgs false
namespace Go.Proofs.Yticobjbjejpomaa.VC
open Go Go.RowKit
variable {W : World} {H : Hp}

set_option maxRecDepth 100000 in
theorem markSS3_ok {v : Value} {l : List (List Int)} {ok : Nat → Prop} (ho : OwnD (kO 2 kI) 22 W H ok v l) (hl : (l.length ≤ 1048576 ∧ ∀ x ∈ l, x.length ≤ 1048576)) (q : Int) (hq : 0 ≤ q ∧ q ≤ 10000000000000) : ACalls Try.prog W 116 #[v, .int .i64 q] H (fun r H' => (∃ k, r = .int .i64 (q + offs l l.length) ∧ sameLen k l ∧ heldL q l k l.length ∧ OwnD (kO 2 kI) 22 W H' ok v k) ∧ But ok H H') := by
  refine ACalls.of (args := [v, .int .i64 q]) Try.func116 rfl rfl ?_
  have X0 := Ext.refl H
  have B0 := But.refl ok H
  have hmL := ho.rd.max
  refine AW.rs ?_
  refine AL.val rfl (.inl rfl) (HV.as rfl) ?_
  refine AL.nx ?_
  refine AW.seq ?_
  refine AW.rs ?_
  refine AL.val rfl (.inl rfl) (HV.as rfl) ?_
  refine AL.nx ?_
  refine AW.block ?_
  refine AW.loop (σ := Nat × Int × List (List Int)) (fun ⟨i, p, k⟩ => [(0, v), (4, .int .i64 0), (0, v), (1, .int .i64 p), (5, .int .i64 (i : Int))]) (fun ⟨i, p, k⟩ H' => i ≤ l.length ∧ p = q + offs l i ∧ sameLen k l ∧ heldL q l k i ∧ OwnD (kO 2 kI) 22 W H' ok v k ∧ But ok H H' ∧ True) (fun ⟨i, p, k⟩ => l.length - i) (0, q, l) ⟨Nat.zero_le _, by simp [offs], sameLen.refl l, fun i hi => absurd hi (Nat.not_lt_zero _), ho, B0, trivial⟩ ⟨rfl, rfl, rfl, rfl, rfl, trivial⟩ ?_
  rintro ⟨i, p, k⟩ H1 ⟨hi, hp, hk, hh, hoL, hB, _⟩
  have hkl : k.length = l.length := hk.1
  have hof := offs_le (B := 1048576) hl.2 i (by omega)
  refine AW.seq ?_
  refine AW.rs ?_
  refine AL.val rfl (.inl rfl) (HV.mv rfl) ?_
  refine AL.val rfl (.inl rfl) (HV.mv rfl) ?_
  refine AL.val rfl (.inl rfl) (HV.len Try.underlying23 rfl (rd_ofO hoL.rd).isSl) ?_
  refine AL.val rfl (.inl rfl) (HV.lti rfl rfl) ?_
  refine AL.nx ?_
  refine AW.ifd rfl (fun c2 => ?_) (fun c2 => ?_)
  · -- then
    refine AW.skip ?_
    refine nrm_and ?_
    refine AW.seq ?_
    refine AW.block ?_
    refine AW.reg ?_
    refine AL.val rfl (.inl rfl) (HV.mv rfl) ?_
    refine AL.val rfl (.inl rfl) (HV.mv rfl) ?_
    obtain ⟨g3, z4, cs5, hz6, hK7, hC8, hg9, hP10⟩ := OwnK.ix (q := (i : Int)) hoL.own sl23 (by omega) (by omega)
    have X11 := Ext.refl H1
    obtain ⟨v12, rfl, hr13⟩ := hK7
    have hO14 := hr13
    replace hr13 := hr13.rd
    have hm15 := hr13.max
    refine AL.val rfl (.inl rfl) (hP10 rfl rfl) ?_
    refine AL.val rfl (.inl rfl) (HV.ld rfl va22 (cells_first hC8 rfl)) ?_
    refine AL.val rfl (.inl rfl) (HV.mv rfl) ?_
    refine AL.w rfl (.inl rfl) (WV.call fn28 rfl (markS_ok p hO14 (by have q1 := hl.2 (l.getD i []) (by have e : l.getD i [] = l[i]'(by omega) := (by simp [show i < l.length by omega]); rw [e]; exact List.getElem_mem _); rw [← hk.2 i, (gd hz6 rfl : k.getD i [] = z4)] at q1; omega))) ?_
    rintro _ H16 ⟨k17, rfl, hk18, hh19, hx20, ho21⟩
    have hd22 := OwnD.mark (i := ((i : Int) : Int).toNat) kI_flat hoL hg9 (Cells.one hC8) (by omega) hx20 ho21
    have B24 := But.trans hB (But.mono hx20 hd22.2)
    have ho25 := hd22.1
    refine AL.val rfl (.inl rfl) (HV.as rfl) ?_
    refine AL.nil ?_
    refine nrm_blk (nrm_and ?_)
    refine AW.reg ?_
    refine AL.val rfl (.inl rfl) (HV.mv rfl) ?_
    refine AL.val rfl (.inl rfl) (HV.add rfl rfl (by omega)) ?_
    refine AL.val rfl (.inl rfl) (HV.as rfl) ?_
    refine AL.nil ?_
    refine nrm_and ?_
    exact ⟨(i + 1, (p + (z4.length : Int)), (k.set ((i : Int) : Int).toNat k17)), ⟨by omega, by rw [offs_succ (by omega), ← hk.2 i, (gd hz6 rfl : k.getD i [] = z4)]; omega, sameLen.set hk hz6 hk18, heldL.step hh hz6 hp hh19, ho25, B24, trivial⟩, by first | omega | (dsimp only; omega), ⟨rfl, rfl, rfl, rfl, rfl, trivial⟩⟩
  · -- else
    refine AW.exit ?_
    refine ex_and (ex_and (ex_blk ?_))
    refine nrm_and ?_
    refine AW.rs ?_
    refine AL.val rfl (.inl rfl) (HV.mv rfl) ?_
    refine AL.val rfl (.inl rfl) (HV.as rfl) ?_
    refine AL.nx ?_
    refine AW.ret ?_
    refine post_one rfl rfl ?_ (.inr rfl)
    exact ⟨⟨k, by obtain rfl : i = l.length := (by omega); exact congrArg (Value.int .i64) hp, hk, by obtain rfl : i = l.length := (by omega); exact hh, hoL⟩, hB⟩

set_option maxRecDepth 100000 in
theorem markM3_ok {v : Value} {l : List (List Int)} {ok2 : Nat → Prop} (p k : Int) (hd : OwnD (kO 2 kI) 22 W H ok2 v l) (hl : (l.length ≤ 1048576 ∧ ∀ x ∈ l, x.length ≤ 1048576)) (q : Int) (hq : 0 ≤ q ∧ q ≤ 10000000000000) : ACalls Try.prog W 67 #[.agg #[.int .i64 p, .int .i64 k, v], .int .i64 q] H (fun r H' => (∃ kl, r = .int .i64 (q + offs l l.length) ∧ sameLen kl l ∧ heldL q l kl l.length ∧ OwnD (kO 2 kI) 22 W H' ok2 v kl) ∧ But ok2 H H') := by
  refine ACalls.of (args := [.agg #[.int .i64 p, .int .i64 k, v], .int .i64 q]) Try.func67 rfl rfl ?_
  have X0 := Ext.refl H
  refine AW.rs ?_
  refine AL.w rfl (.inl rfl) (WV.bx rfl rfl) ?_
  rintro _ H2 ⟨b1, rfl, hx3, hn4, hb5⟩
  have o6 := Nat.le_trans X0.bd hn4
  have X7 := Ext.trans X0 hx3
  have ho8 := hd.ext hx3
  have X9 := Ext.refl H2
  refine AL.val rfl (.inl rfl) (HV.as rfl) ?_
  refine AL.nx ?_
  refine AW.rs ?_
  refine AL.val rfl (.inl rfl) (HV.fa fl29_2 rfl) ?_
  refine AL.val rfl (.inl rfl) (HV.ld rfl va23 (at_cell_add (j := 2) hb5 rfl)) ?_
  refine AL.val rfl (.inl rfl) (HV.mv rfl) ?_
  refine AL.w rfl (.inl rfl) (WV.call fn116 rfl (markSS3_ok ho8 hl q (by omega))) ?_
  rintro _ H10 ⟨⟨kl11, rfl, hk12, hh13, ho15⟩, hx14⟩
  refine AL.val rfl (.inl rfl) (HV.as rfl) ?_
  refine AL.nx ?_
  refine AW.rs ?_
  refine AL.val rfl (.inl rfl) (HV.mv rfl) ?_
  refine AL.val rfl (.inl rfl) (HV.as rfl) ?_
  refine AL.nx ?_
  refine AW.ret ?_
  refine post_one rfl rfl ?_ (.inr rfl)
  exact ⟨⟨kl11, rfl, hk12, hh13, ho15⟩, But.trans (Ext.but X7 _) hx14⟩

set_option maxRecDepth 100000 in
theorem markSc3_ok {vo v : Value} {o : List Int} {l : List (List Int)} {ok1 ok2 : Nat → Prop} (n p k : Int) (ho : OwnK kI 2 W H ok1 vo o) (hd : OwnD (kO 2 kI) 22 W H ok2 v l) (hap : ∀ b, ok1 b → ok2 b → False) (hW2 : ∀ b, ok2 b → W.heap.size ≤ b) (hol : o.length ≤ 1048576) (hl : (l.length ≤ 1048576 ∧ ∀ x ∈ l, x.length ≤ 1048576)) (q : Int) (hq : 0 ≤ q ∧ q ≤ 8000000000000) : ACalls Try.prog W 18 #[.agg #[.int .i64 n, vo, .int .i64 p, .int .i64 k, v], .int .i64 q] H (fun r H' => (∃ ko kl, r = .int .i64 (q + (o.length : Int) + offs l l.length) ∧ ko.length = o.length ∧ (∀ j : Nat, j < ko.length → ko.getD j 0 = q + (j : Int)) ∧ sameLen kl l ∧ heldL (q + (o.length : Int)) l kl l.length ∧ OwnK kI 2 W H' ok1 vo ko ∧ OwnD (kO 2 kI) 22 W H' ok2 v kl) ∧ But (fun b => ok1 b ∨ ok2 b) H H') := by
  refine ACalls.of (args := [.agg #[.int .i64 n, vo, .int .i64 p, .int .i64 k, v], .int .i64 q]) Try.func18 rfl rfl ?_
  have X0 := Ext.refl H
  refine AW.rs ?_
  refine AL.w rfl (.inl rfl) (WV.bx rfl rfl) ?_
  rintro _ H2 ⟨b1, rfl, hx3, hn4, hb5⟩
  have o6 := Nat.le_trans X0.bd hn4
  have X7 := Ext.trans X0 hx3
  have ho8 := ho.ext hx3
  have ho9 := hd.ext hx3
  have X10 := Ext.refl H2
  refine AL.val rfl (.inl rfl) (HV.as rfl) ?_
  refine AL.nx ?_
  refine AW.rs ?_
  refine AL.val rfl (.inl rfl) (HV.fa fl31_1 rfl) ?_
  refine AL.val rfl (.inl rfl) (HV.ld rfl va22 (at_cell_add (j := 1) hb5 rfl)) ?_
  refine AL.val rfl (.inl rfl) (HV.mv rfl) ?_
  refine AL.w rfl (.inl rfl) (WV.call fn28 rfl (markS_ok q ho8 (by omega))) ?_
  rintro _ H8 ⟨ko, rfl, hko, hho, hx8, ho8⟩
  have hd8 := ho9.but hx8 (fun b hb _ e => hap b (ho8.blk b e).1 hb) (fun b e => (ho8.blk b e).2.2)
  have hb8 := hb5.but hx8 (fun e => by have a1 := ho.ltb _ e; have a2 := o6; omega)
  refine AL.val rfl (.inl rfl) (HV.as rfl) ?_
  refine AL.nx ?_
  refine AW.rs ?_
  refine AL.val rfl (.inl rfl) (HV.fa fl31_2 rfl) ?_
  refine AL.val rfl (.inl rfl) (HV.lda (cs := [.int .i64 p, .int .i64 k, v]) rfl va29 (at_cells hb8 rfl)) ?_
  refine AL.val rfl (.inl rfl) (HV.mv rfl) ?_
  refine AL.w rfl (.inl rfl) (WV.call fn67 rfl (markM3_ok p k hd8 hl (q + (o.length : Int)) (by omega))) ?_
  rintro _ H9 ⟨⟨kl, rfl, hkl, hhl, hd9⟩, hx9⟩
  have ho9 := ho8.but hx9 (fun b h1 _ e => hap b h1 e) (fun b e => hW2 b e)
  refine AL.val rfl (.inl rfl) (HV.as rfl) ?_
  refine AL.nx ?_
  refine AW.rs ?_
  refine AL.val rfl (.inl rfl) (HV.mv rfl) ?_
  refine AL.val rfl (.inl rfl) (HV.as rfl) ?_
  refine AL.nx ?_
  refine AW.ret ?_
  refine post_one rfl rfl ?_ (.inr rfl)
  exact ⟨⟨ko, kl, rfl, hko, hho, hkl, hhl, ho9, hd9⟩, But.trans (Ext.but X7 _) (But.trans (But.mono hx8 (fun b e => .inl (ho8.blk b e).1)) (But.mono hx9 (fun b e => .inr e)))⟩

set_option maxRecDepth 100000 in
theorem heldM_ok {v : Value} {kl l : List (List Int)} {ok : Nat → Prop} (p k : Int) (hr : RdK (kR kI) W H ok v kl) (q : Int) (hq : 0 ≤ q ∧ q ≤ 4194304) (hl : (l.length ≤ 1048576 ∧ ∀ x ∈ l, x.length ≤ 1048576)) (hk : sameLen kl l) (hh : heldL q l kl l.length) : ACalls Try.prog W 68 #[.agg #[.int .i64 p, .int .i64 k, v], .int .i64 q] H (fun r H' => r = .int .i64 (q + offs l l.length) ∧ Ext H H') := by
  refine ACalls.of (args := [.agg #[.int .i64 p, .int .i64 k, v], .int .i64 q]) Try.func68 rfl rfl ?_
  have X0 := Ext.refl H
  have hm1 := hr.max
  have hof := offs_le (B := 1048576) hl.2 l.length (Nat.le_refl _)
  refine AW.rs ?_
  refine AL.w rfl (.inl rfl) (WV.bx rfl rfl) ?_
  rintro _ H3 ⟨b2, rfl, hx4, hn5, hb6⟩
  have o7 := Nat.le_trans X0.bd hn5
  have X8 := Ext.trans X0 hx4
  have X9 := Ext.refl H3
  refine AL.val rfl (.inl rfl) (HV.as rfl) ?_
  refine AL.nx ?_
  refine AW.rs ?_
  refine AL.val rfl (.inl rfl) (HV.fa fl29_2 rfl) ?_
  refine AL.val rfl (.inl rfl) (HV.ld rfl va23 (at_cell_add (j := 2) hb6 rfl)) ?_
  refine AL.val rfl (.inl rfl) (HV.mv rfl) ?_
  refine AL.w rfl (.inl rfl) (WV.call fn130 rfl (heldSS_ok q (hr.ext X8) hq hl hk hh)) ?_
  rintro _ H10 ⟨rfl, hx11⟩
  have X12 := Ext.trans X8 hx11
  have X13 := Ext.trans X9 hx11
  have hb14 := hb6.ext hx11
  refine AL.val rfl (.inl rfl) (HV.as rfl) ?_
  refine AL.nx ?_
  refine AW.seq ?_
  refine AW.rs ?_
  refine AL.val rfl (.inl rfl) (HV.mv rfl) ?_
  refine AL.val rfl (.inl rfl) (HV.lti rfl rfl) ?_
  refine AL.nx ?_
  refine AW.ifd rfl (fun c15 => ?_) (fun c15 => ?_)
  · -- then
    refine AW.rs ?_
    refine AL.val rfl (.inl rfl) (HV.as rfl) ?_
    refine AL.nx ?_
    refine AW.ret ?_
    refine ret_and ?_
    refine post_one rfl rfl ?_ (.inr rfl)
    exfalso; omega
  · -- else
    refine AW.skip ?_
    refine nrm_and ?_
    refine AW.rs ?_
    refine AL.val rfl (.inl rfl) (HV.mv rfl) ?_
    refine AL.val rfl (.inl rfl) (HV.as rfl) ?_
    refine AL.nx ?_
    refine AW.ret ?_
    refine post_one rfl rfl ?_ (.inr rfl)
    exact ⟨rfl, X12⟩

set_option maxRecDepth 100000 in
theorem heldSc_ok {vo v : Value} {ko o : List Int} {kl l : List (List Int)} {oko ok : Nat → Prop} (n p k : Int) (ho : RdK kI W H oko vo ko) (hr : RdK (kR kI) W H ok v kl) (q : Int) (hq : 0 ≤ q ∧ q ≤ 1048576) (hol : o.length ≤ 1048576) (hko : ko.length = o.length) (hho : ∀ j : Nat, j < ko.length → ko.getD j 0 = q + (j : Int)) (hl : (l.length ≤ 1048576 ∧ ∀ x ∈ l, x.length ≤ 1048576)) (hk : sameLen kl l) (hh : heldL (q + (o.length : Int)) l kl l.length) : ACalls Try.prog W 19 #[.agg #[.int .i64 n, vo, .int .i64 p, .int .i64 k, v], .int .i64 q] H (fun r H' => r = .int .i64 (q + (o.length : Int) + offs l l.length) ∧ Ext H H') := by
  refine ACalls.of (args := [.agg #[.int .i64 n, vo, .int .i64 p, .int .i64 k, v], .int .i64 q]) Try.func19 rfl rfl ?_
  have X0 := Ext.refl H
  have hm1 := ho.max
  have hm2 := hr.max
  have hof := offs_le (B := 1048576) hl.2 l.length (Nat.le_refl _)
  refine AW.rs ?_
  refine AL.w rfl (.inl rfl) (WV.bx rfl rfl) ?_
  rintro _ H4 ⟨b3, rfl, hx5, hn6, hb7⟩
  have o8 := Nat.le_trans X0.bd hn6
  have X9 := Ext.trans X0 hx5
  have X10 := Ext.refl H4
  refine AL.val rfl (.inl rfl) (HV.as rfl) ?_
  refine AL.nx ?_
  refine AW.rs ?_
  refine AL.val rfl (.inl rfl) (HV.fa fl31_1 rfl) ?_
  refine AL.val rfl (.inl rfl) (HV.ld rfl va22 (at_cell_add (j := 1) hb7 rfl)) ?_
  refine AL.val rfl (.inl rfl) (HV.mv rfl) ?_
  refine AL.w rfl (.inl rfl) (WV.call fn29 rfl ((hko ▸ heldS_ok q (ho.ext X9) (by omega) hho : ACalls Try.prog W 29 #[vo, .int .i64 q] _ (fun r H' => r = .int .i64 (q + (o.length : Int)) ∧ Ext _ H')))) ?_
  rintro _ H11 ⟨rfl, hx12⟩
  have X13 := Ext.trans X9 hx12
  have X14 := Ext.trans X10 hx12
  have hb15 := hb7.ext hx12
  refine AL.val rfl (.inl rfl) (HV.as rfl) ?_
  refine AL.nx ?_
  refine AW.seq ?_
  refine AW.rs ?_
  refine AL.val rfl (.inl rfl) (HV.mv rfl) ?_
  refine AL.val rfl (.inl rfl) (HV.lti rfl rfl) ?_
  refine AL.nx ?_
  refine AW.ifd rfl (fun c16 => ?_) (fun c16 => ?_)
  · -- then
    refine AW.rs ?_
    refine AL.val rfl (.inl rfl) (HV.as rfl) ?_
    refine AL.nx ?_
    refine AW.ret ?_
    refine ret_and ?_
    refine post_one rfl rfl ?_ (.inr rfl)
    exfalso; omega
  · -- else
    refine AW.skip ?_
    refine nrm_and ?_
    refine AW.rs ?_
    refine AL.val rfl (.inl rfl) (HV.fa fl31_2 rfl) ?_
    refine AL.val rfl (.inl rfl) (HV.lda (cs := [.int .i64 p, .int .i64 k, v]) rfl va29 (at_cells hb15 rfl)) ?_
    refine AL.val rfl (.inl rfl) (HV.mv rfl) ?_
    refine AL.w rfl (.inl rfl) (WV.call fn68 rfl (heldM_ok p k (hr.ext X13) (q + (o.length : Int)) (by omega) hl hk hh)) ?_
    rintro _ H17 ⟨rfl, hx18⟩
    have X19 := Ext.trans X13 hx18
    have X20 := Ext.trans X14 hx18
    have hb21 := hb15.ext hx18
    refine AL.val rfl (.inl rfl) (HV.as rfl) ?_
    refine AL.nx ?_
    refine AW.seq ?_
    refine AW.rs ?_
    refine AL.val rfl (.inl rfl) (HV.mv rfl) ?_
    refine AL.val rfl (.inl rfl) (HV.lti rfl rfl) ?_
    refine AL.nx ?_
    refine AW.ifd rfl (fun c22 => ?_) (fun c22 => ?_)
    · -- then
      refine AW.rs ?_
      refine AL.val rfl (.inl rfl) (HV.as rfl) ?_
      refine AL.nx ?_
      refine AW.ret ?_
      refine ret_and ?_
      refine post_one rfl rfl ?_ (.inr rfl)
      exfalso; omega
    · -- else
      refine AW.skip ?_
      refine nrm_and ?_
      refine AW.rs ?_
      refine AL.val rfl (.inl rfl) (HV.mv rfl) ?_
      refine AL.val rfl (.inl rfl) (HV.as rfl) ?_
      refine AL.nx ?_
      refine AW.ret ?_
      refine post_one rfl rfl ?_ (.inr rfl)
      exact ⟨rfl, X19⟩

set_option maxRecDepth 100000 in
set_option maxHeartbeats 4000000 in
theorem law_BothScheme {vo v : Value} {o : List Int} {l : List (List Int)} {oko ok : Nat → Prop} (n p k : Int) (ho : RdK kI W H oko vo o) (hr : RdK (kR kI) W H ok v l) {vo2 v2 : Value} {o2 : List Int} {l2 : List (List Int)} {oko2 ok2 : Nat → Prop} (n2 p2 k2 : Int) (ho2 : RdK kI W H oko2 vo2 o2) (hr2 : RdK (kR kI) W H ok2 v2 l2) (hW : W.heap.size ≤ H.bd) : ACalls Try.prog W 3 #[.agg #[.int .i64 n, vo, .int .i64 p, .int .i64 k, v], .agg #[.int .i64 n2, vo2, .int .i64 p2, .int .i64 k2, v2]] H (fun r H' => r = .bool true ∧ Ext H H') := by
  refine ACalls.of (args := [.agg #[.int .i64 n, vo, .int .i64 p, .int .i64 k, v], .agg #[.int .i64 n2, vo2, .int .i64 p2, .int .i64 k2, v2]]) Try.func3 rfl rfl ?_
  have X0 := Ext.refl H
  have hm1 := ho.max
  have hm2 := hr.max
  have hm3 := ho2.max
  have hm4 := hr2.max
  refine AW.rs ?_
  refine AL.w rfl (.inl rfl) (WV.bx rfl rfl) ?_
  rintro _ H6 ⟨b5, rfl, hx7, hn8, hb9⟩
  have o10 := Nat.le_trans X0.bd hn8
  have X11 := Ext.trans X0 hx7
  have X12 := Ext.refl H6
  refine AL.w rfl (.inl rfl) (WV.bx rfl rfl) ?_
  rintro _ H14 ⟨b13, rfl, hx15, hn16, hb17⟩
  have o18 := Nat.le_trans X11.bd hn16
  have o19 := Nat.le_trans X12.bd hn16
  have ne20 : b5 ≠ b13 := by have := hb9.lt; omega
  have X21 := Ext.trans X11 hx15
  have X22 := Ext.trans X12 hx15
  have hb23 := hb9.ext hx15
  have X24 := Ext.refl H14
  refine AL.val rfl (.inl rfl) (HV.as rfl) ?_
  refine AL.nx ?_
  refine AW.rs ?_
  refine AL.val rfl (.inl rfl) (HV.as rfl) ?_
  refine AL.nx ?_
  refine AW.rs ?_
  refine AL.val rfl (.inl rfl) (HV.lda (cs := [.int .i64 n, vo, .int .i64 p, .int .i64 k, v]) rfl va27 (at_cells hb23 rfl)) ?_
  refine AL.val rfl (.inl rfl) (HV.mv rfl) ?_
  refine AL.w rfl (.inl rfl) (WV.call fn13 rfl (szSc_ok n p k (ho.ext X21) (hr.ext X21) 1048576 (by omega))) ?_
  rintro _ H25 ⟨⟨q27, rfl, ha28, hb29, he30⟩, hx26⟩
  have X31 := Ext.trans X21 hx26
  have X32 := Ext.trans X22 hx26
  have X33 := Ext.trans X24 hx26
  have hb34 := hb23.ext hx26
  have hb35 := hb17.ext hx26
  refine AL.val rfl (.inl rfl) (HV.as rfl) ?_
  refine AL.nx ?_
  refine AW.seq ?_
  refine AW.rs ?_
  refine AL.val rfl (.inl rfl) (HV.mv rfl) ?_
  refine AL.val rfl (.inl rfl) (HV.lti rfl rfl) ?_
  refine AL.nx ?_
  refine AW.ifd rfl (fun c36 => ?_) (fun c36 => ?_)
  · -- then
    refine AW.rs ?_
    refine AL.val rfl (.inl rfl) (HV.as rfl) ?_
    refine AL.nx ?_
    refine AW.ret ?_
    refine ret_and ?_
    refine post_one rfl rfl ?_ (.inr rfl)
    exact ⟨rfl, X31⟩
  · -- else
    refine AW.skip ?_
    refine nrm_and ?_
    refine AW.rs ?_
    refine AL.val rfl (.inl rfl) (HV.lda (cs := [.int .i64 n2, vo2, .int .i64 p2, .int .i64 k2, v2]) rfl va27 (at_cells hb35 rfl)) ?_
    refine AL.val rfl (.inl rfl) (HV.mv rfl) ?_
    refine AL.w rfl (.inl rfl) (WV.call fn13 rfl (szSc_ok n2 p2 k2 (ho2.ext X31) (hr2.ext X31) q27 (by omega))) ?_
    rintro _ H37 ⟨⟨q39, rfl, ha40, hb41, he42⟩, hx38⟩
    have X43 := Ext.trans X31 hx38
    have X44 := Ext.trans X32 hx38
    have X45 := Ext.trans X33 hx38
    have hb46 := hb34.ext hx38
    have hb47 := hb35.ext hx38
    refine AL.val rfl (.inl rfl) (HV.as rfl) ?_
    refine AL.nx ?_
    refine AW.seq ?_
    refine AW.rs ?_
    refine AL.val rfl (.inl rfl) (HV.mv rfl) ?_
    refine AL.val rfl (.inl rfl) (HV.lti rfl rfl) ?_
    refine AL.nx ?_
    refine AW.ifd rfl (fun c48 => ?_) (fun c48 => ?_)
    · -- then
      refine AW.rs ?_
      refine AL.val rfl (.inl rfl) (HV.as rfl) ?_
      refine AL.nx ?_
      refine AW.ret ?_
      refine ret_and ?_
      refine post_one rfl rfl ?_ (.inr rfl)
      exact ⟨rfl, X43⟩
    · -- else
      refine AW.skip ?_
      refine nrm_and ?_
      have X49 := Ext.refl H37
      refine AW.cut (fun E1_ H1_ => ∃ (u1 u2 : Value) (b10 : Nat), Ext H37 H1_ ∧ H37.bd ≤ b10 ∧ At W H1_ b10 ⟨31, [.int .i64 (zI (bsC n o p k l n2 o2 p2 k2 l2) n), u1, .int .i64 (zI (bsC n o p k l n2 o2 p2 k2 l2) p), .int .i64 (zI (bsC n o p k l n2 o2 p2 k2 l2) (k + k2)), u2], 5⟩ ∧ RdK kI W H1_ (fun _ => True) u1 (zL (bsC n o p k l n2 o2 p2 k2 l2) (o ++ o2)) ∧ RdK (kR kI) W H1_ (fun _ => True) u2 (zL (bsC n o p k l n2 o2 p2 k2 l2) (joL p k k2 l l2)) ∧ sub [(0, .agg #[.int .i64 n, vo, .int .i64 p, .int .i64 k, v]), (1, .agg #[.int .i64 n2, vo2, .int .i64 p2, .int .i64 k2, v2]), (2, .pointer (some ⟨b5, 0, none⟩)), (3, .pointer (some ⟨b13, 0, none⟩)), (4, .bool false), (5, .int .i64 q39), (17, .agg #[.int .i64 n, vo, .int .i64 p, .int .i64 k, v]), (18, .int .i64 1048576), (19, .int .i64 q27), (20, .int .i64 q27), (21, .bool (decide (q27 < 0))), (22, .agg #[.int .i64 n2, vo2, .int .i64 p2, .int .i64 k2, v2]), (23, .int .i64 q27), (24, .int .i64 q39), (25, .int .i64 q39), (26, .bool (decide (q39 < 0))), (6, .pointer (some ⟨b10, 0, none⟩)), (7, .int .i64 (bsC n o p k l n2 o2 p2 k2 l2))] E1_) ?_ ?_
      · -- the region
        refine AW.draw' [0, 1, 0, 7, 15, 31, 63, 63, 0, 383, 1023] mixed (by rfl) ?_
        refine Dr.read 0 _ 28 _ rfl rfl rfl rfl rfl (RV.of (by intro _ _ h; cases h) (.inl rfl) (fun _ xd => HV.lda (cs := [.int .i64 n, vo, .int .i64 p, .int .i64 k, v]) rfl va27 (fun j u hu => rdc_ext xd ((at_cells hb46 rfl) j u hu)))) ?_
        refine Dr.read 2 _ 30 _ rfl rfl rfl rfl rfl (RV.of (by intro _ _ h; cases h) (.inl rfl) (fun _ xd => HV.lda (cs := [.int .i64 n2, vo2, .int .i64 p2, .int .i64 k2, v2]) rfl va27 (fun j u hu => rdc_ext xd ((at_cells hb47 rfl) j u hu)))) ?_
        refine Dr.eff2 1 8 _ _ _ _  rfl rfl  (by intro d h; cases h; exact ⟨rfl, rfl⟩) (by intro d h; cases h; exact ⟨rfl, rfl⟩) rfl rfl  rfl rfl rfl  (EC.of (by intro _ _ h; cases h) (.inl rfl) (WV.call fn15 rfl (toSc_ok n p k (ho.ext X43) (hr.ext X43) (he30 (by omega)).1 (he30 (by omega)).2))) (EC.of (by intro _ _ h; cases h) (.inl rfl) (WV.al ze31 rfl)) (fun v H' h => .inl (h.2)) (fun v H' h => .inl (h.choose_spec.2.1)) ?_ ?_ 
        · -- 1 first
          rintro _ H67 ⟨⟨u64, v65, B66, rfl, ho69, ho70⟩, hx68⟩
          have X73 := Ext.trans X43 hx68
          have X74 := Ext.trans X44 hx68
          have X75 := Ext.trans X45 hx68
          have X76 := Ext.trans X49 hx68
          have hb77 := hb46.ext hx68
          have hb78 := hb47.ext hx68
          have X79 := Ext.refl H67
          have hr71 := ho69.rd
          have hr72 := rd_ofO ho70.rd
          refine Dr.eff2 3 8 _ _ _ _  rfl rfl  (by intro d h; cases h; exact ⟨rfl, rfl⟩) (by intro d h; cases h; exact ⟨rfl, rfl⟩) rfl rfl  rfl rfl rfl  (EC.of (by intro _ _ h; cases h) (.inl rfl) (WV.call fn15 rfl (toSc_ok n2 p2 k2 (ho2.ext X73) (hr2.ext X73) (he42 (by omega)).1 (he42 (by omega)).2))) (EC.of (by intro _ _ h; cases h) (.inl rfl) (WV.al ze31 rfl)) (fun v H' h => .inl (h.2)) (fun v H' h => .inl (h.choose_spec.2.1)) ?_ ?_ 
          · -- 3 first
            rintro _ H97 ⟨⟨u94, v95, B96, rfl, ho99, ho100⟩, hx98⟩
            have X103 := Ext.trans X73 hx98
            have X104 := Ext.trans X74 hx98
            have X105 := Ext.trans X75 hx98
            have X106 := Ext.trans X76 hx98
            have X107 := Ext.trans X79 hx98
            have hb108 := hb77.ext hx98
            have hb109 := hb78.ext hx98
            have X110 := Ext.refl H97
            have hr101 := ho99.rd
            have hr102 := rd_ofO ho100.rd
            have y111 := hb108.lt
            have y112 := hb109.lt
            have o113 := X103.bd
            have o114 := X104.bd
            have o115 := X105.bd
            have o116 := X106.bd
            have o117 := X107.bd
            have o118 := X110.bd
            refine Dr.eff2 4 8 _ _ _ _  rfl rfl  (by intro d h; cases h; exact ⟨rfl, rfl⟩) (by intro d h; cases h; exact ⟨rfl, rfl⟩) rfl rfl  rfl rfl rfl  (EC.of (by intro _ _ h; cases h) (.inl rfl) (WV.call fn14 rfl (specBS_ok n p k (hr71.ext X107) (hr72.ext X107) n2 p2 k2 hr101 hr102))) (EC.of (by intro _ _ h; cases h) (.inl rfl) (WV.al ze31 rfl)) (fun v H' h => .inl (h.2)) (fun v H' h => .inl (h.choose_spec.2.1)) ?_ ?_ 
            · -- 4 first
              have y133 := hb108.lt
              have y134 := hb109.lt
              have o135 := X103.bd
              have o136 := X104.bd
              have o137 := X105.bd
              have o138 := X106.bd
              have o139 := X107.bd
              have o140 := X110.bd
              rintro _ H144 ⟨⟨u141, v142, B143, rfl, ho146, ho147⟩, hx145⟩
              have X150 := Ext.trans X103 hx145
              have X151 := Ext.trans X104 hx145
              have X152 := Ext.trans X105 hx145
              have X153 := Ext.trans X106 hx145
              have X154 := Ext.trans X107 hx145
              have X155 := Ext.trans X110 hx145
              have hb156 := hb108.ext hx145
              have hb157 := hb109.ext hx145
              have X158 := Ext.refl H144
              have hr148 := ho146.okk (ok' := fun b => (H97.bd ≤ b ∧ b < B143) ∧ b < H144.bd) (fun b hb hlt => ⟨hb, hlt⟩)
              have hr149 := ho147.okk (ok' := fun b => (H97.bd ≤ b ∧ B143 ≤ b) ∧ b < H144.bd) (fun b hb hlt => ⟨hb, hlt⟩)
              refine Dr.read 5 _ 27 _ rfl rfl rfl rfl rfl (RV.of (by intro _ _ h; cases h) (.inl rfl) (fun _ xd => HV.mv rfl)) ?_
              refine Dr.read 6 _ 33 _ rfl rfl rfl rfl rfl (RV.of (by intro _ _ h; cases h) (.inl rfl) (fun _ xd => HV.ex rfl rfl)) ?_
              refine Dr.read 7 _ 34 _ rfl rfl rfl rfl rfl (RV.of (by intro _ _ h; cases h) (.inl rfl) (fun _ xd => HV.ex rfl rfl)) ?_
              refine Dr.eff 8 _ _ rfl (by intro d h; cases h; exact ⟨rfl, rfl⟩) rfl rfl rfl (EC.of (by intro _ _ h; cases h) (.inl rfl) (WV.al ze31 rfl)) (fun v H' h => .inl (h.choose_spec.2.1)) ?_
              rintro _ H162 ⟨b161, rfl, hx163, hn164, hb165⟩
              have o166 := Nat.le_trans X150.bd hn164
              have o167 := Nat.le_trans X151.bd hn164
              have o168 := Nat.le_trans X152.bd hn164
              have o169 := Nat.le_trans X153.bd hn164
              have o170 := Nat.le_trans X154.bd hn164
              have o171 := Nat.le_trans X155.bd hn164
              have o172 := Nat.le_trans X158.bd hn164
              have ne173 : b5 ≠ b161 := by have := hb156.lt; omega
              have ne174 : b13 ≠ b161 := by have := hb157.lt; omega
              have X175 := Ext.trans X150 hx163
              have X176 := Ext.trans X151 hx163
              have X177 := Ext.trans X152 hx163
              have X178 := Ext.trans X153 hx163
              have X179 := Ext.trans X154 hx163
              have X180 := Ext.trans X155 hx163
              have X181 := Ext.trans X158 hx163
              have ho182 := hr148.ext hx163
              have ho183 := hr149.ext hx163
              have hb184 := hb156.ext hx163
              have hb185 := hb157.ext hx163
              have X186 := Ext.refl H162
              refine Dr.eff 9 _ _ rfl (by intro d h; cases h) rfl rfl rfl (EC.of (by intro _ _ h; cases h) (.inl rfl) (WV.st rfl rfl va31 rfl hb165 (Nat.le_of_ble_eq_true rfl) (one_cons rfl (one_cons (sl_one1 ho182.rd.isSl) (one_cons rfl (one_cons rfl (one_cons (sl_one1 (rd_ofO ho183.rd).isSl) one_nil))))))) ?_ ?_
              · -- kept
                rintro _ H187 ⟨hx188, hb189⟩
                have X190 := Ext.thru X175 hx188 (fun z_ hz_ => by rw [hz_]; exact o166)
                have X191 := Ext.thru X176 hx188 (fun z_ hz_ => by rw [hz_]; exact o167)
                have X192 := Ext.thru X177 hx188 (fun z_ hz_ => by rw [hz_]; exact o168)
                have X193 := Ext.thru X178 hx188 (fun z_ hz_ => by rw [hz_]; exact o169)
                have X194 := Ext.thru X179 hx188 (fun z_ hz_ => by rw [hz_]; exact o170)
                have X195 := Ext.thru X180 hx188 (fun z_ hz_ => by rw [hz_]; exact o171)
                have X196 := Ext.thru X181 hx188 (fun z_ hz_ => by rw [hz_]; exact o172)
                have q198 := Nat.le_trans X186.bd hx188.bd
                have ho199 := ho182.but hx188 (fun b hb _ e => by have hb' : (H97.bd ≤ b ∧ b < B143) ∧ b < H144.bd := hb; have e' : b = b161 := e; omega) (fun z_ hz_ => by rw [hz_]; exact hb165.w)
                have ho200 := ho183.but hx188 (fun b hb _ e => by have hb' : (H97.bd ≤ b ∧ B143 ≤ b) ∧ b < H144.bd := hb; have e' : b = b161 := e; omega) (fun z_ hz_ => by rw [hz_]; exact hb165.w)
                have hb201 := hb184.but hx188 ne173
                have hb202 := hb185.but hx188 ne174
                have hb203 : At W H187 b161 ⟨31, [.int .i64 (zI (bsC n o p k l n2 o2 p2 k2 l2) n), u141, .int .i64 (zI (bsC n o p k l n2 o2 p2 k2 l2) p), .int .i64 (zI (bsC n o p k l n2 o2 p2 k2 l2) (k + k2)), v142], 5⟩ := hb189
                refine .inr (.inr ?_)
                exact (kept_cons (.inr ⟨_, _, _, rfl, rfl, rfl, (RV.of (by intro _ _ h; cases h) (.inl rfl) (fun _ xd => HV.ex rfl rfl))⟩) (kept_cons (.inl rfl) (kept_cons (.inl rfl) (kept_cons (.inl rfl) (kept_cons (.inl rfl) kept_nil)))))
              rintro _ H187 ⟨hx188, hb189⟩
              have X204 := Ext.thru X175 hx188 (fun z_ hz_ => by rw [hz_]; exact o166)
              have X205 := Ext.thru X176 hx188 (fun z_ hz_ => by rw [hz_]; exact o167)
              have X206 := Ext.thru X177 hx188 (fun z_ hz_ => by rw [hz_]; exact o168)
              have X207 := Ext.thru X178 hx188 (fun z_ hz_ => by rw [hz_]; exact o169)
              have X208 := Ext.thru X179 hx188 (fun z_ hz_ => by rw [hz_]; exact o170)
              have X209 := Ext.thru X180 hx188 (fun z_ hz_ => by rw [hz_]; exact o171)
              have X210 := Ext.thru X181 hx188 (fun z_ hz_ => by rw [hz_]; exact o172)
              have q212 := Nat.le_trans X186.bd hx188.bd
              have ho213 := ho182.but hx188 (fun b hb _ e => by have hb' : (H97.bd ≤ b ∧ b < B143) ∧ b < H144.bd := hb; have e' : b = b161 := e; omega) (fun z_ hz_ => by rw [hz_]; exact hb165.w)
              have ho214 := ho183.but hx188 (fun b hb _ e => by have hb' : (H97.bd ≤ b ∧ B143 ≤ b) ∧ b < H144.bd := hb; have e' : b = b161 := e; omega) (fun z_ hz_ => by rw [hz_]; exact hb165.w)
              have hb215 := hb184.but hx188 ne173
              have hb216 := hb185.but hx188 ne174
              have hb217 : At W H187 b161 ⟨31, [.int .i64 (zI (bsC n o p k l n2 o2 p2 k2 l2) n), u141, .int .i64 (zI (bsC n o p k l n2 o2 p2 k2 l2) p), .int .i64 (zI (bsC n o p k l n2 o2 p2 k2 l2) (k + k2)), v142], 5⟩ := hb189
              refine Dr.read 10 _ 7 _ rfl rfl rfl rfl rfl (RV.of (by intro _ _ h; cases h) (.inl rfl) (fun _ xd => HV.as rfl)) ?_
              refine Dr.fin rfl ?_
              exact nrm_and ⟨u141, v142, b161, X207, o169, hb217, (ho213.rd).okk (fun _ _ _ => trivial), ((rd_ofO ho214.rd)).okk (fun _ _ _ => trivial), rfl, rfl, rfl, rfl, rfl, rfl, rfl, rfl, rfl, rfl, rfl, rfl, rfl, rfl, rfl, rfl, rfl, rfl, trivial⟩
            · -- 8 first
              rintro _ H219 ⟨b218, rfl, hx220, hn221, hb222⟩
              have o223 := Nat.le_trans X103.bd hn221
              have o224 := Nat.le_trans X104.bd hn221
              have o225 := Nat.le_trans X105.bd hn221
              have o226 := Nat.le_trans X106.bd hn221
              have o227 := Nat.le_trans X107.bd hn221
              have o228 := Nat.le_trans X110.bd hn221
              have ne229 : b5 ≠ b218 := by have := hb108.lt; omega
              have ne230 : b13 ≠ b218 := by have := hb109.lt; omega
              have X231 := Ext.trans X103 hx220
              have X232 := Ext.trans X104 hx220
              have X233 := Ext.trans X105 hx220
              have X234 := Ext.trans X106 hx220
              have X235 := Ext.trans X107 hx220
              have X236 := Ext.trans X110 hx220
              have hb237 := hb108.ext hx220
              have hb238 := hb109.ext hx220
              have X239 := Ext.refl H219
              have y240 := hb237.lt
              have y241 := hb238.lt
              have y242 := hb222.lt
              have o243 := X231.bd
              have o244 := X232.bd
              have o245 := X233.bd
              have o246 := X234.bd
              have o247 := X235.bd
              have o248 := X236.bd
              have o249 := X239.bd
              refine Dr.eff 4 _ _ rfl (by intro d h; cases h; exact ⟨rfl, rfl⟩) rfl rfl rfl (EC.of (by intro _ _ h; cases h) (.inl rfl) (WV.call fn14 rfl (specBS_ok n p k (hr71.ext X235) (hr72.ext X235) n2 p2 k2 (hr101.ext X236) (hr102.ext X236)))) (fun v H' h => .inl (h.2)) ?_
              rintro _ H253 ⟨⟨u250, v251, B252, rfl, ho255, ho256⟩, hx254⟩
              have X259 := Ext.trans X231 hx254
              have X260 := Ext.trans X232 hx254
              have X261 := Ext.trans X233 hx254
              have X262 := Ext.trans X234 hx254
              have X263 := Ext.trans X235 hx254
              have X264 := Ext.trans X236 hx254
              have X265 := Ext.trans X239 hx254
              have hb266 := hb237.ext hx254
              have hb267 := hb238.ext hx254
              have hb268 := hb222.ext hx254
              have X269 := Ext.refl H253
              have hr257 := ho255.okk (ok' := fun b => (H219.bd ≤ b ∧ b < B252) ∧ b < H253.bd) (fun b hb hlt => ⟨hb, hlt⟩)
              have hr258 := ho256.okk (ok' := fun b => (H219.bd ≤ b ∧ B252 ≤ b) ∧ b < H253.bd) (fun b hb hlt => ⟨hb, hlt⟩)
              refine Dr.read 5 _ 27 _ rfl rfl rfl rfl rfl (RV.of (by intro _ _ h; cases h) (.inl rfl) (fun _ xd => HV.mv rfl)) ?_
              refine Dr.read 6 _ 33 _ rfl rfl rfl rfl rfl (RV.of (by intro _ _ h; cases h) (.inl rfl) (fun _ xd => HV.ex rfl rfl)) ?_
              refine Dr.read 7 _ 34 _ rfl rfl rfl rfl rfl (RV.of (by intro _ _ h; cases h) (.inl rfl) (fun _ xd => HV.ex rfl rfl)) ?_
              refine Dr.eff 9 _ _ rfl (by intro d h; cases h) rfl rfl rfl (EC.of (by intro _ _ h; cases h) (.inl rfl) (WV.st rfl rfl va31 rfl hb268 (Nat.le_of_ble_eq_true rfl) (one_cons rfl (one_cons (sl_one1 hr257.rd.isSl) (one_cons rfl (one_cons rfl (one_cons (sl_one1 (rd_ofO hr258.rd).isSl) one_nil))))))) ?_ ?_
              · -- kept
                rintro _ H272 ⟨hx273, hb274⟩
                have X275 := Ext.thru X259 hx273 (fun z_ hz_ => by rw [hz_]; exact o223)
                have X276 := Ext.thru X260 hx273 (fun z_ hz_ => by rw [hz_]; exact o224)
                have X277 := Ext.thru X261 hx273 (fun z_ hz_ => by rw [hz_]; exact o225)
                have X278 := Ext.thru X262 hx273 (fun z_ hz_ => by rw [hz_]; exact o226)
                have X279 := Ext.thru X263 hx273 (fun z_ hz_ => by rw [hz_]; exact o227)
                have X280 := Ext.thru X264 hx273 (fun z_ hz_ => by rw [hz_]; exact o228)
                have q282 := Nat.le_trans X265.bd hx273.bd
                have q284 := Nat.le_trans X269.bd hx273.bd
                have ho285 := hr257.but hx273 (fun b hb _ e => by have hb' : (H219.bd ≤ b ∧ b < B252) ∧ b < H253.bd := hb; have e' : b = b218 := e; omega) (fun z_ hz_ => by rw [hz_]; exact hb268.w)
                have ho286 := hr258.but hx273 (fun b hb _ e => by have hb' : (H219.bd ≤ b ∧ B252 ≤ b) ∧ b < H253.bd := hb; have e' : b = b218 := e; omega) (fun z_ hz_ => by rw [hz_]; exact hb268.w)
                have hb287 := hb266.but hx273 ne229
                have hb288 := hb267.but hx273 ne230
                have hb289 : At W H272 b218 ⟨31, [.int .i64 (zI (bsC n o p k l n2 o2 p2 k2 l2) n), u250, .int .i64 (zI (bsC n o p k l n2 o2 p2 k2 l2) p), .int .i64 (zI (bsC n o p k l n2 o2 p2 k2 l2) (k + k2)), v251], 5⟩ := hb274
                refine .inr (.inr ?_)
                exact (kept_cons (.inr ⟨_, _, _, rfl, rfl, rfl, (RV.of (by intro _ _ h; cases h) (.inl rfl) (fun _ xd => HV.ex rfl rfl))⟩) (kept_cons (.inl rfl) (kept_cons (.inl rfl) (kept_cons (.inl rfl) (kept_cons (.inl rfl) kept_nil)))))
              rintro _ H272 ⟨hx273, hb274⟩
              have X290 := Ext.thru X259 hx273 (fun z_ hz_ => by rw [hz_]; exact o223)
              have X291 := Ext.thru X260 hx273 (fun z_ hz_ => by rw [hz_]; exact o224)
              have X292 := Ext.thru X261 hx273 (fun z_ hz_ => by rw [hz_]; exact o225)
              have X293 := Ext.thru X262 hx273 (fun z_ hz_ => by rw [hz_]; exact o226)
              have X294 := Ext.thru X263 hx273 (fun z_ hz_ => by rw [hz_]; exact o227)
              have X295 := Ext.thru X264 hx273 (fun z_ hz_ => by rw [hz_]; exact o228)
              have q297 := Nat.le_trans X265.bd hx273.bd
              have q299 := Nat.le_trans X269.bd hx273.bd
              have ho300 := hr257.but hx273 (fun b hb _ e => by have hb' : (H219.bd ≤ b ∧ b < B252) ∧ b < H253.bd := hb; have e' : b = b218 := e; omega) (fun z_ hz_ => by rw [hz_]; exact hb268.w)
              have ho301 := hr258.but hx273 (fun b hb _ e => by have hb' : (H219.bd ≤ b ∧ B252 ≤ b) ∧ b < H253.bd := hb; have e' : b = b218 := e; omega) (fun z_ hz_ => by rw [hz_]; exact hb268.w)
              have hb302 := hb266.but hx273 ne229
              have hb303 := hb267.but hx273 ne230
              have hb304 : At W H272 b218 ⟨31, [.int .i64 (zI (bsC n o p k l n2 o2 p2 k2 l2) n), u250, .int .i64 (zI (bsC n o p k l n2 o2 p2 k2 l2) p), .int .i64 (zI (bsC n o p k l n2 o2 p2 k2 l2) (k + k2)), v251], 5⟩ := hb274
              refine Dr.read 10 _ 7 _ rfl rfl rfl rfl rfl (RV.of (by intro _ _ h; cases h) (.inl rfl) (fun _ xd => HV.as rfl)) ?_
              refine Dr.fin rfl ?_
              exact nrm_and ⟨u250, v251, b218, X293, o226, hb304, (ho300.rd).okk (fun _ _ _ => trivial), ((rd_ofO ho301.rd)).okk (fun _ _ _ => trivial), rfl, rfl, rfl, rfl, rfl, rfl, rfl, rfl, rfl, rfl, rfl, rfl, rfl, rfl, rfl, rfl, rfl, rfl, trivial⟩
          · -- 8 first
            rintro _ H306 ⟨b305, rfl, hx307, hn308, hb309⟩
            have o310 := Nat.le_trans X73.bd hn308
            have o311 := Nat.le_trans X74.bd hn308
            have o312 := Nat.le_trans X75.bd hn308
            have o313 := Nat.le_trans X76.bd hn308
            have o314 := Nat.le_trans X79.bd hn308
            have ne315 : b5 ≠ b305 := by have := hb77.lt; omega
            have ne316 : b13 ≠ b305 := by have := hb78.lt; omega
            have X317 := Ext.trans X73 hx307
            have X318 := Ext.trans X74 hx307
            have X319 := Ext.trans X75 hx307
            have X320 := Ext.trans X76 hx307
            have X321 := Ext.trans X79 hx307
            have hb322 := hb77.ext hx307
            have hb323 := hb78.ext hx307
            have X324 := Ext.refl H306
            refine Dr.eff 3 _ _ rfl (by intro d h; cases h; exact ⟨rfl, rfl⟩) rfl rfl rfl (EC.of (by intro _ _ h; cases h) (.inl rfl) (WV.call fn15 rfl (toSc_ok n2 p2 k2 (ho2.ext X317) (hr2.ext X317) (he42 (by omega)).1 (he42 (by omega)).2))) (fun v H' h => .inl (h.2)) ?_
            rintro _ H328 ⟨⟨u325, v326, B327, rfl, ho330, ho331⟩, hx329⟩
            have X334 := Ext.trans X317 hx329
            have X335 := Ext.trans X318 hx329
            have X336 := Ext.trans X319 hx329
            have X337 := Ext.trans X320 hx329
            have X338 := Ext.trans X321 hx329
            have X339 := Ext.trans X324 hx329
            have hb340 := hb322.ext hx329
            have hb341 := hb323.ext hx329
            have hb342 := hb309.ext hx329
            have X343 := Ext.refl H328
            have hr332 := ho330.rd
            have hr333 := rd_ofO ho331.rd
            have y344 := hb340.lt
            have y345 := hb341.lt
            have y346 := hb342.lt
            have o347 := X334.bd
            have o348 := X335.bd
            have o349 := X336.bd
            have o350 := X337.bd
            have o351 := X338.bd
            have o352 := X339.bd
            have o353 := X343.bd
            refine Dr.eff 4 _ _ rfl (by intro d h; cases h; exact ⟨rfl, rfl⟩) rfl rfl rfl (EC.of (by intro _ _ h; cases h) (.inl rfl) (WV.call fn14 rfl (specBS_ok n p k (hr71.ext X338) (hr72.ext X338) n2 p2 k2 hr332 hr333))) (fun v H' h => .inl (h.2)) ?_
            rintro _ H357 ⟨⟨u354, v355, B356, rfl, ho359, ho360⟩, hx358⟩
            have X363 := Ext.trans X334 hx358
            have X364 := Ext.trans X335 hx358
            have X365 := Ext.trans X336 hx358
            have X366 := Ext.trans X337 hx358
            have X367 := Ext.trans X338 hx358
            have X368 := Ext.trans X339 hx358
            have X369 := Ext.trans X343 hx358
            have hb370 := hb340.ext hx358
            have hb371 := hb341.ext hx358
            have hb372 := hb342.ext hx358
            have X373 := Ext.refl H357
            have hr361 := ho359.okk (ok' := fun b => (H328.bd ≤ b ∧ b < B356) ∧ b < H357.bd) (fun b hb hlt => ⟨hb, hlt⟩)
            have hr362 := ho360.okk (ok' := fun b => (H328.bd ≤ b ∧ B356 ≤ b) ∧ b < H357.bd) (fun b hb hlt => ⟨hb, hlt⟩)
            refine Dr.read 5 _ 27 _ rfl rfl rfl rfl rfl (RV.of (by intro _ _ h; cases h) (.inl rfl) (fun _ xd => HV.mv rfl)) ?_
            refine Dr.read 6 _ 33 _ rfl rfl rfl rfl rfl (RV.of (by intro _ _ h; cases h) (.inl rfl) (fun _ xd => HV.ex rfl rfl)) ?_
            refine Dr.read 7 _ 34 _ rfl rfl rfl rfl rfl (RV.of (by intro _ _ h; cases h) (.inl rfl) (fun _ xd => HV.ex rfl rfl)) ?_
            refine Dr.eff 9 _ _ rfl (by intro d h; cases h) rfl rfl rfl (EC.of (by intro _ _ h; cases h) (.inl rfl) (WV.st rfl rfl va31 rfl hb372 (Nat.le_of_ble_eq_true rfl) (one_cons rfl (one_cons (sl_one1 hr361.rd.isSl) (one_cons rfl (one_cons rfl (one_cons (sl_one1 (rd_ofO hr362.rd).isSl) one_nil))))))) ?_ ?_
            · -- kept
              rintro _ H376 ⟨hx377, hb378⟩
              have X379 := Ext.thru X363 hx377 (fun z_ hz_ => by rw [hz_]; exact o310)
              have X380 := Ext.thru X364 hx377 (fun z_ hz_ => by rw [hz_]; exact o311)
              have X381 := Ext.thru X365 hx377 (fun z_ hz_ => by rw [hz_]; exact o312)
              have X382 := Ext.thru X366 hx377 (fun z_ hz_ => by rw [hz_]; exact o313)
              have X383 := Ext.thru X367 hx377 (fun z_ hz_ => by rw [hz_]; exact o314)
              have q385 := Nat.le_trans X368.bd hx377.bd
              have q387 := Nat.le_trans X369.bd hx377.bd
              have q389 := Nat.le_trans X373.bd hx377.bd
              have ho390 := hr361.but hx377 (fun b hb _ e => by have hb' : (H328.bd ≤ b ∧ b < B356) ∧ b < H357.bd := hb; have e' : b = b305 := e; omega) (fun z_ hz_ => by rw [hz_]; exact hb372.w)
              have ho391 := hr362.but hx377 (fun b hb _ e => by have hb' : (H328.bd ≤ b ∧ B356 ≤ b) ∧ b < H357.bd := hb; have e' : b = b305 := e; omega) (fun z_ hz_ => by rw [hz_]; exact hb372.w)
              have hb392 := hb370.but hx377 ne315
              have hb393 := hb371.but hx377 ne316
              have hb394 : At W H376 b305 ⟨31, [.int .i64 (zI (bsC n o p k l n2 o2 p2 k2 l2) n), u354, .int .i64 (zI (bsC n o p k l n2 o2 p2 k2 l2) p), .int .i64 (zI (bsC n o p k l n2 o2 p2 k2 l2) (k + k2)), v355], 5⟩ := hb378
              refine .inr (.inr ?_)
              exact (kept_cons (.inr ⟨_, _, _, rfl, rfl, rfl, (RV.of (by intro _ _ h; cases h) (.inl rfl) (fun _ xd => HV.ex rfl rfl))⟩) (kept_cons (.inl rfl) (kept_cons (.inl rfl) (kept_cons (.inl rfl) (kept_cons (.inl rfl) kept_nil)))))
            rintro _ H376 ⟨hx377, hb378⟩
            have X395 := Ext.thru X363 hx377 (fun z_ hz_ => by rw [hz_]; exact o310)
            have X396 := Ext.thru X364 hx377 (fun z_ hz_ => by rw [hz_]; exact o311)
            have X397 := Ext.thru X365 hx377 (fun z_ hz_ => by rw [hz_]; exact o312)
            have X398 := Ext.thru X366 hx377 (fun z_ hz_ => by rw [hz_]; exact o313)
            have X399 := Ext.thru X367 hx377 (fun z_ hz_ => by rw [hz_]; exact o314)
            have q401 := Nat.le_trans X368.bd hx377.bd
            have q403 := Nat.le_trans X369.bd hx377.bd
            have q405 := Nat.le_trans X373.bd hx377.bd
            have ho406 := hr361.but hx377 (fun b hb _ e => by have hb' : (H328.bd ≤ b ∧ b < B356) ∧ b < H357.bd := hb; have e' : b = b305 := e; omega) (fun z_ hz_ => by rw [hz_]; exact hb372.w)
            have ho407 := hr362.but hx377 (fun b hb _ e => by have hb' : (H328.bd ≤ b ∧ B356 ≤ b) ∧ b < H357.bd := hb; have e' : b = b305 := e; omega) (fun z_ hz_ => by rw [hz_]; exact hb372.w)
            have hb408 := hb370.but hx377 ne315
            have hb409 := hb371.but hx377 ne316
            have hb410 : At W H376 b305 ⟨31, [.int .i64 (zI (bsC n o p k l n2 o2 p2 k2 l2) n), u354, .int .i64 (zI (bsC n o p k l n2 o2 p2 k2 l2) p), .int .i64 (zI (bsC n o p k l n2 o2 p2 k2 l2) (k + k2)), v355], 5⟩ := hb378
            refine Dr.read 10 _ 7 _ rfl rfl rfl rfl rfl (RV.of (by intro _ _ h; cases h) (.inl rfl) (fun _ xd => HV.as rfl)) ?_
            refine Dr.fin rfl ?_
            exact nrm_and ⟨u354, v355, b305, X398, o313, hb410, (ho406.rd).okk (fun _ _ _ => trivial), ((rd_ofO ho407.rd)).okk (fun _ _ _ => trivial), rfl, rfl, rfl, rfl, rfl, rfl, rfl, rfl, rfl, rfl, rfl, rfl, rfl, rfl, rfl, rfl, rfl, rfl, trivial⟩
        · -- 8 first
          rintro _ H412 ⟨b411, rfl, hx413, hn414, hb415⟩
          have o416 := Nat.le_trans X43.bd hn414
          have o417 := Nat.le_trans X44.bd hn414
          have o418 := Nat.le_trans X45.bd hn414
          have o419 := Nat.le_trans X49.bd hn414
          have ne420 : b5 ≠ b411 := by have := hb46.lt; omega
          have ne421 : b13 ≠ b411 := by have := hb47.lt; omega
          have X422 := Ext.trans X43 hx413
          have X423 := Ext.trans X44 hx413
          have X424 := Ext.trans X45 hx413
          have X425 := Ext.trans X49 hx413
          have hb426 := hb46.ext hx413
          have hb427 := hb47.ext hx413
          have X428 := Ext.refl H412
          refine Dr.eff 1 _ _ rfl (by intro d h; cases h; exact ⟨rfl, rfl⟩) rfl rfl rfl (EC.of (by intro _ _ h; cases h) (.inl rfl) (WV.call fn15 rfl (toSc_ok n p k (ho.ext X422) (hr.ext X422) (he30 (by omega)).1 (he30 (by omega)).2))) (fun v H' h => .inl (h.2)) ?_
          rintro _ H432 ⟨⟨u429, v430, B431, rfl, ho434, ho435⟩, hx433⟩
          have X438 := Ext.trans X422 hx433
          have X439 := Ext.trans X423 hx433
          have X440 := Ext.trans X424 hx433
          have X441 := Ext.trans X425 hx433
          have X442 := Ext.trans X428 hx433
          have hb443 := hb426.ext hx433
          have hb444 := hb427.ext hx433
          have hb445 := hb415.ext hx433
          have X446 := Ext.refl H432
          have hr436 := ho434.rd
          have hr437 := rd_ofO ho435.rd
          refine Dr.eff 3 _ _ rfl (by intro d h; cases h; exact ⟨rfl, rfl⟩) rfl rfl rfl (EC.of (by intro _ _ h; cases h) (.inl rfl) (WV.call fn15 rfl (toSc_ok n2 p2 k2 (ho2.ext X438) (hr2.ext X438) (he42 (by omega)).1 (he42 (by omega)).2))) (fun v H' h => .inl (h.2)) ?_
          rintro _ H450 ⟨⟨u447, v448, B449, rfl, ho452, ho453⟩, hx451⟩
          have X456 := Ext.trans X438 hx451
          have X457 := Ext.trans X439 hx451
          have X458 := Ext.trans X440 hx451
          have X459 := Ext.trans X441 hx451
          have X460 := Ext.trans X442 hx451
          have X461 := Ext.trans X446 hx451
          have hb462 := hb443.ext hx451
          have hb463 := hb444.ext hx451
          have hb464 := hb445.ext hx451
          have X465 := Ext.refl H450
          have hr454 := ho452.rd
          have hr455 := rd_ofO ho453.rd
          have y466 := hb462.lt
          have y467 := hb463.lt
          have y468 := hb464.lt
          have o469 := X456.bd
          have o470 := X457.bd
          have o471 := X458.bd
          have o472 := X459.bd
          have o473 := X460.bd
          have o474 := X461.bd
          have o475 := X465.bd
          refine Dr.eff 4 _ _ rfl (by intro d h; cases h; exact ⟨rfl, rfl⟩) rfl rfl rfl (EC.of (by intro _ _ h; cases h) (.inl rfl) (WV.call fn14 rfl (specBS_ok n p k (hr436.ext X461) (hr437.ext X461) n2 p2 k2 hr454 hr455))) (fun v H' h => .inl (h.2)) ?_
          rintro _ H479 ⟨⟨u476, v477, B478, rfl, ho481, ho482⟩, hx480⟩
          have X485 := Ext.trans X456 hx480
          have X486 := Ext.trans X457 hx480
          have X487 := Ext.trans X458 hx480
          have X488 := Ext.trans X459 hx480
          have X489 := Ext.trans X460 hx480
          have X490 := Ext.trans X461 hx480
          have X491 := Ext.trans X465 hx480
          have hb492 := hb462.ext hx480
          have hb493 := hb463.ext hx480
          have hb494 := hb464.ext hx480
          have X495 := Ext.refl H479
          have hr483 := ho481.okk (ok' := fun b => (H450.bd ≤ b ∧ b < B478) ∧ b < H479.bd) (fun b hb hlt => ⟨hb, hlt⟩)
          have hr484 := ho482.okk (ok' := fun b => (H450.bd ≤ b ∧ B478 ≤ b) ∧ b < H479.bd) (fun b hb hlt => ⟨hb, hlt⟩)
          refine Dr.read 5 _ 27 _ rfl rfl rfl rfl rfl (RV.of (by intro _ _ h; cases h) (.inl rfl) (fun _ xd => HV.mv rfl)) ?_
          refine Dr.read 6 _ 33 _ rfl rfl rfl rfl rfl (RV.of (by intro _ _ h; cases h) (.inl rfl) (fun _ xd => HV.ex rfl rfl)) ?_
          refine Dr.read 7 _ 34 _ rfl rfl rfl rfl rfl (RV.of (by intro _ _ h; cases h) (.inl rfl) (fun _ xd => HV.ex rfl rfl)) ?_
          refine Dr.eff 9 _ _ rfl (by intro d h; cases h) rfl rfl rfl (EC.of (by intro _ _ h; cases h) (.inl rfl) (WV.st rfl rfl va31 rfl hb494 (Nat.le_of_ble_eq_true rfl) (one_cons rfl (one_cons (sl_one1 hr483.rd.isSl) (one_cons rfl (one_cons rfl (one_cons (sl_one1 (rd_ofO hr484.rd).isSl) one_nil))))))) ?_ ?_
          · -- kept
            rintro _ H498 ⟨hx499, hb500⟩
            have X501 := Ext.thru X485 hx499 (fun z_ hz_ => by rw [hz_]; exact o416)
            have X502 := Ext.thru X486 hx499 (fun z_ hz_ => by rw [hz_]; exact o417)
            have X503 := Ext.thru X487 hx499 (fun z_ hz_ => by rw [hz_]; exact o418)
            have X504 := Ext.thru X488 hx499 (fun z_ hz_ => by rw [hz_]; exact o419)
            have q506 := Nat.le_trans X489.bd hx499.bd
            have q508 := Nat.le_trans X490.bd hx499.bd
            have q510 := Nat.le_trans X491.bd hx499.bd
            have q512 := Nat.le_trans X495.bd hx499.bd
            have ho513 := hr483.but hx499 (fun b hb _ e => by have hb' : (H450.bd ≤ b ∧ b < B478) ∧ b < H479.bd := hb; have e' : b = b411 := e; omega) (fun z_ hz_ => by rw [hz_]; exact hb494.w)
            have ho514 := hr484.but hx499 (fun b hb _ e => by have hb' : (H450.bd ≤ b ∧ B478 ≤ b) ∧ b < H479.bd := hb; have e' : b = b411 := e; omega) (fun z_ hz_ => by rw [hz_]; exact hb494.w)
            have hb515 := hb492.but hx499 ne420
            have hb516 := hb493.but hx499 ne421
            have hb517 : At W H498 b411 ⟨31, [.int .i64 (zI (bsC n o p k l n2 o2 p2 k2 l2) n), u476, .int .i64 (zI (bsC n o p k l n2 o2 p2 k2 l2) p), .int .i64 (zI (bsC n o p k l n2 o2 p2 k2 l2) (k + k2)), v477], 5⟩ := hb500
            refine .inr (.inr ?_)
            exact (kept_cons (.inr ⟨_, _, _, rfl, rfl, rfl, (RV.of (by intro _ _ h; cases h) (.inl rfl) (fun _ xd => HV.ex rfl rfl))⟩) (kept_cons (.inl rfl) (kept_cons (.inl rfl) (kept_cons (.inl rfl) (kept_cons (.inl rfl) kept_nil)))))
          rintro _ H498 ⟨hx499, hb500⟩
          have X518 := Ext.thru X485 hx499 (fun z_ hz_ => by rw [hz_]; exact o416)
          have X519 := Ext.thru X486 hx499 (fun z_ hz_ => by rw [hz_]; exact o417)
          have X520 := Ext.thru X487 hx499 (fun z_ hz_ => by rw [hz_]; exact o418)
          have X521 := Ext.thru X488 hx499 (fun z_ hz_ => by rw [hz_]; exact o419)
          have q523 := Nat.le_trans X489.bd hx499.bd
          have q525 := Nat.le_trans X490.bd hx499.bd
          have q527 := Nat.le_trans X491.bd hx499.bd
          have q529 := Nat.le_trans X495.bd hx499.bd
          have ho530 := hr483.but hx499 (fun b hb _ e => by have hb' : (H450.bd ≤ b ∧ b < B478) ∧ b < H479.bd := hb; have e' : b = b411 := e; omega) (fun z_ hz_ => by rw [hz_]; exact hb494.w)
          have ho531 := hr484.but hx499 (fun b hb _ e => by have hb' : (H450.bd ≤ b ∧ B478 ≤ b) ∧ b < H479.bd := hb; have e' : b = b411 := e; omega) (fun z_ hz_ => by rw [hz_]; exact hb494.w)
          have hb532 := hb492.but hx499 ne420
          have hb533 := hb493.but hx499 ne421
          have hb534 : At W H498 b411 ⟨31, [.int .i64 (zI (bsC n o p k l n2 o2 p2 k2 l2) n), u476, .int .i64 (zI (bsC n o p k l n2 o2 p2 k2 l2) p), .int .i64 (zI (bsC n o p k l n2 o2 p2 k2 l2) (k + k2)), v477], 5⟩ := hb500
          refine Dr.read 10 _ 7 _ rfl rfl rfl rfl rfl (RV.of (by intro _ _ h; cases h) (.inl rfl) (fun _ xd => HV.as rfl)) ?_
          refine Dr.fin rfl ?_
          exact nrm_and ⟨u476, v477, b411, X521, o419, hb534, (ho530.rd).okk (fun _ _ _ => trivial), ((rd_ofO ho531.rd)).okk (fun _ _ _ => trivial), rfl, rfl, rfl, rfl, rfl, rfl, rfl, rfl, rfl, rfl, rfl, rfl, rfl, rfl, rfl, rfl, rfl, rfl, trivial⟩
      · -- behind it
        rintro E1_ H1_ ⟨u1, u2, b10, hXi, hib10, hb10, hru1, hru2, hsub⟩
        refine AW.le (E := [(0, .agg #[.int .i64 n, vo, .int .i64 p, .int .i64 k, v]), (1, .agg #[.int .i64 n2, vo2, .int .i64 p2, .int .i64 k2, v2]), (2, .pointer (some ⟨b5, 0, none⟩)), (3, .pointer (some ⟨b13, 0, none⟩)), (4, .bool false), (5, .int .i64 q39), (17, .agg #[.int .i64 n, vo, .int .i64 p, .int .i64 k, v]), (18, .int .i64 1048576), (19, .int .i64 q27), (20, .int .i64 q27), (21, .bool (decide (q27 < 0))), (22, .agg #[.int .i64 n2, vo2, .int .i64 p2, .int .i64 k2, v2]), (23, .int .i64 q27), (24, .int .i64 q39), (25, .int .i64 q39), (26, .bool (decide (q39 < 0))), (6, .pointer (some ⟨b10, 0, none⟩)), (7, .int .i64 (bsC n o p k l n2 o2 p2 k2 l2))]) (H := H1_) ?_ hsub (Ext.refl _)
        have o535 := X43.bd
        have o536 := X44.bd
        have o537 := X45.bd
        have o538 := X49.bd
        have y539 := hb46.lt
        have y540 := hb47.lt
        have X541 := Ext.trans X43 hXi
        have X542 := Ext.trans X44 hXi
        have X543 := Ext.trans X45 hXi
        have X544 := Ext.trans X49 hXi
        have hb545 := hb46.ext hXi
        have hb546 := hb47.ext hXi
        have X547 := Ext.refl H1_
        have ne548 : b5 ≠ b10 := by omega
        have ne549 : b13 ≠ b10 := by omega
        refine AW.rs ?_
        refine AL.val rfl (.inl rfl) (HV.lda (cs := [.int .i64 n, vo, .int .i64 p, .int .i64 k, v]) rfl va27 (at_cells hb545 rfl)) ?_
        have y550 := hb545.lt
        have y551 := hb546.lt
        have y552 := hb10.lt
        have o553 := X541.bd
        have o554 := X542.bd
        have o555 := X543.bd
        have o556 := X544.bd
        have o557 := X547.bd
        refine AL.w rfl (.inl rfl) (WV.call fn15 rfl (toSc_ok n p k (ho.ext X541) (hr.ext X541) (he30 (by omega)).1 (he30 (by omega)).2)) ?_
        rintro _ H561 ⟨⟨u558, v559, B560, rfl, ho563, ho564⟩, hx562⟩
        have X567 := Ext.trans X541 hx562
        have X568 := Ext.trans X542 hx562
        have X569 := Ext.trans X543 hx562
        have X570 := Ext.trans X544 hx562
        have X571 := Ext.trans X547 hx562
        have hb572 := hb545.ext hx562
        have hb573 := hb546.ext hx562
        have hb574 := hb10.ext hx562
        have X575 := Ext.refl H561
        have ho565 := ho563.okk (ok' := fun b => (H1_.bd ≤ b ∧ b < B560) ∧ b < H561.bd) (fun b hb hlt => ⟨hb, hlt⟩)
        have ho566 := ho564.okk (ok' := fun b => (H1_.bd ≤ b ∧ B560 ≤ b) ∧ b < H561.bd) (fun b hb hlt => ⟨hb, hlt⟩)
        refine AL.w rfl (.inl rfl) (WV.al ze31 rfl) ?_
        rintro _ H579 ⟨b578, rfl, hx580, hn581, hb582⟩
        have o583 := Nat.le_trans X567.bd hn581
        have o584 := Nat.le_trans X568.bd hn581
        have o585 := Nat.le_trans X569.bd hn581
        have o586 := Nat.le_trans X570.bd hn581
        have o587 := Nat.le_trans X571.bd hn581
        have o588 := Nat.le_trans X575.bd hn581
        have ne589 : b5 ≠ b578 := by have := hb572.lt; omega
        have ne590 : b13 ≠ b578 := by have := hb573.lt; omega
        have ne591 : b10 ≠ b578 := by have := hb574.lt; omega
        have X592 := Ext.trans X567 hx580
        have X593 := Ext.trans X568 hx580
        have X594 := Ext.trans X569 hx580
        have X595 := Ext.trans X570 hx580
        have X596 := Ext.trans X571 hx580
        have X597 := Ext.trans X575 hx580
        have ho598 := ho565.ext hx580
        have ho599 := ho566.ext hx580
        have hb600 := hb572.ext hx580
        have hb601 := hb573.ext hx580
        have hb602 := hb574.ext hx580
        have X603 := Ext.refl H579
        refine AL.w0 (.inl rfl) (WV.st rfl rfl va31 rfl hb582 (Nat.le_of_ble_eq_true rfl) (one_cons rfl (one_cons (sl_one1 ho598.rd.isSl) (one_cons rfl (one_cons rfl (one_cons (sl_one1 (rd_ofO ho599.rd).isSl) one_nil)))))) ?_
        rintro _ H604 ⟨hx605, hb606⟩
        have X607 := Ext.thru X592 hx605 (fun z_ hz_ => by rw [hz_]; exact o583)
        have X608 := Ext.thru X593 hx605 (fun z_ hz_ => by rw [hz_]; exact o584)
        have X609 := Ext.thru X594 hx605 (fun z_ hz_ => by rw [hz_]; exact o585)
        have X610 := Ext.thru X595 hx605 (fun z_ hz_ => by rw [hz_]; exact o586)
        have X611 := Ext.thru X596 hx605 (fun z_ hz_ => by rw [hz_]; exact o587)
        have X612 := Ext.thru X597 hx605 (fun z_ hz_ => by rw [hz_]; exact o588)
        have q614 := Nat.le_trans X603.bd hx605.bd
        have ho615 := ho598.but hx605 (fun b hb _ e => by have hb' : (H1_.bd ≤ b ∧ b < B560) ∧ b < H561.bd := hb; have e' : b = b578 := e; omega) (fun z_ hz_ => by rw [hz_]; exact hb582.w)
        have ho616 := ho599.but hx605 (fun b hb _ e => by have hb' : (H1_.bd ≤ b ∧ B560 ≤ b) ∧ b < H561.bd := hb; have e' : b = b578 := e; omega) (fun z_ hz_ => by rw [hz_]; exact hb582.w)
        have hb617 := hb600.but hx605 ne589
        have hb618 := hb601.but hx605 ne590
        have hb619 := hb602.but hx605 ne591
        have hb620 : At W H604 b578 ⟨31, [.int .i64 n, u558, .int .i64 p, .int .i64 k, v559], 5⟩ := hb606
        refine AL.nx ?_
        refine AW.rs ?_
        refine AL.val rfl (.inl rfl) (HV.lda (cs := [.int .i64 n2, vo2, .int .i64 p2, .int .i64 k2, v2]) rfl va27 (at_cells hb618 rfl)) ?_
        have X621 := Ext.refl H604
        have y622 := hb617.lt
        have y623 := hb618.lt
        have y624 := hb619.lt
        have y625 := hb620.lt
        have o626 := X607.bd
        have o627 := X608.bd
        have o628 := X609.bd
        have o629 := X610.bd
        have o630 := X611.bd
        have o631 := X612.bd
        have o632 := X621.bd
        have a633 := ho615.ltb
        have a634 := ho616.ltb
        refine AL.w rfl (.inl rfl) (WV.call fn15 rfl (toSc_ok n2 p2 k2 (ho2.ext X607) (hr2.ext X607) (he42 (by omega)).1 (he42 (by omega)).2)) ?_
        rintro _ H638 ⟨⟨u635, v636, B637, rfl, ho640, ho641⟩, hx639⟩
        have q644 := Nat.le_trans q614 hx639.bd
        have X645 := Ext.trans X607 hx639
        have X646 := Ext.trans X608 hx639
        have X647 := Ext.trans X609 hx639
        have X648 := Ext.trans X610 hx639
        have X649 := Ext.trans X611 hx639
        have X650 := Ext.trans X612 hx639
        have X651 := Ext.trans X621 hx639
        have ho652 := ho615.ext hx639
        have ho653 := ho616.ext hx639
        have hb654 := hb617.ext hx639
        have hb655 := hb618.ext hx639
        have hb656 := hb619.ext hx639
        have hb657 := hb620.ext hx639
        have X658 := Ext.refl H638
        have ho642 := ho640.okk (ok' := fun b => (H604.bd ≤ b ∧ b < B637) ∧ b < H638.bd) (fun b hb hlt => ⟨hb, hlt⟩)
        have ho643 := ho641.okk (ok' := fun b => (H604.bd ≤ b ∧ B637 ≤ b) ∧ b < H638.bd) (fun b hb hlt => ⟨hb, hlt⟩)
        refine AL.w rfl (.inl rfl) (WV.al ze31 rfl) ?_
        rintro _ H662 ⟨b661, rfl, hx663, hn664, hb665⟩
        have o666 := Nat.le_trans X645.bd hn664
        have o667 := Nat.le_trans X646.bd hn664
        have o668 := Nat.le_trans X647.bd hn664
        have o669 := Nat.le_trans X648.bd hn664
        have o670 := Nat.le_trans X649.bd hn664
        have o671 := Nat.le_trans X650.bd hn664
        have o672 := Nat.le_trans X651.bd hn664
        have o673 := Nat.le_trans X658.bd hn664
        have o674 := Nat.le_trans q644 hn664
        have ne675 : b5 ≠ b661 := by have := hb654.lt; omega
        have ne676 : b13 ≠ b661 := by have := hb655.lt; omega
        have ne677 : b10 ≠ b661 := by have := hb656.lt; omega
        have ne678 : b578 ≠ b661 := by have := hb657.lt; omega
        have q679 := Nat.le_trans q644 hx663.bd
        have X680 := Ext.trans X645 hx663
        have X681 := Ext.trans X646 hx663
        have X682 := Ext.trans X647 hx663
        have X683 := Ext.trans X648 hx663
        have X684 := Ext.trans X649 hx663
        have X685 := Ext.trans X650 hx663
        have X686 := Ext.trans X651 hx663
        have X687 := Ext.trans X658 hx663
        have ho688 := ho652.ext hx663
        have ho689 := ho653.ext hx663
        have ho690 := ho642.ext hx663
        have ho691 := ho643.ext hx663
        have hb692 := hb654.ext hx663
        have hb693 := hb655.ext hx663
        have hb694 := hb656.ext hx663
        have hb695 := hb657.ext hx663
        have X696 := Ext.refl H662
        refine AL.w0 (.inl rfl) (WV.st rfl rfl va31 rfl hb665 (Nat.le_of_ble_eq_true rfl) (one_cons rfl (one_cons (sl_one1 ho690.rd.isSl) (one_cons rfl (one_cons rfl (one_cons (sl_one1 (rd_ofO ho691.rd).isSl) one_nil)))))) ?_
        rintro _ H697 ⟨hx698, hb699⟩
        have q700 := Nat.le_trans q679 hx698.bd
        have X701 := Ext.thru X680 hx698 (fun z_ hz_ => by rw [hz_]; exact o666)
        have X702 := Ext.thru X681 hx698 (fun z_ hz_ => by rw [hz_]; exact o667)
        have X703 := Ext.thru X682 hx698 (fun z_ hz_ => by rw [hz_]; exact o668)
        have X704 := Ext.thru X683 hx698 (fun z_ hz_ => by rw [hz_]; exact o669)
        have X705 := Ext.thru X684 hx698 (fun z_ hz_ => by rw [hz_]; exact o670)
        have X706 := Ext.thru X685 hx698 (fun z_ hz_ => by rw [hz_]; exact o671)
        have X707 := Ext.thru X686 hx698 (fun z_ hz_ => by rw [hz_]; exact o672)
        have X708 := Ext.thru X687 hx698 (fun z_ hz_ => by rw [hz_]; exact o673)
        have q710 := Nat.le_trans X696.bd hx698.bd
        have ho711 := ho688.but hx698 (fun b hb _ e => by have hb' : (H1_.bd ≤ b ∧ b < B560) ∧ b < H561.bd := hb; have e' : b = b661 := e; omega) (fun z_ hz_ => by rw [hz_]; exact hb665.w)
        have ho712 := ho689.but hx698 (fun b hb _ e => by have hb' : (H1_.bd ≤ b ∧ B560 ≤ b) ∧ b < H561.bd := hb; have e' : b = b661 := e; omega) (fun z_ hz_ => by rw [hz_]; exact hb665.w)
        have ho713 := ho690.but hx698 (fun b hb _ e => by have hb' : (H604.bd ≤ b ∧ b < B637) ∧ b < H638.bd := hb; have e' : b = b661 := e; omega) (fun z_ hz_ => by rw [hz_]; exact hb665.w)
        have ho714 := ho691.but hx698 (fun b hb _ e => by have hb' : (H604.bd ≤ b ∧ B637 ≤ b) ∧ b < H638.bd := hb; have e' : b = b661 := e; omega) (fun z_ hz_ => by rw [hz_]; exact hb665.w)
        have hb715 := hb692.but hx698 ne675
        have hb716 := hb693.but hx698 ne676
        have hb717 := hb694.but hx698 ne677
        have hb718 := hb695.but hx698 ne678
        have hb719 : At W H697 b661 ⟨31, [.int .i64 n2, u635, .int .i64 p2, .int .i64 k2, v636], 5⟩ := hb699
        refine AL.nx ?_
        refine AW.rs ?_
        refine AL.val rfl (.inl rfl) (HV.lda (cs := [.int .i64 n, u558, .int .i64 p, .int .i64 k, v559]) rfl va31 (at_cells hb718 rfl)) ?_
        refine AL.val rfl (.inl rfl) (HV.lda (cs := [.int .i64 n2, u635, .int .i64 p2, .int .i64 k2, v636]) rfl va31 (at_cells hb719 rfl)) ?_
        have X720 := Ext.refl H697
        have y721 := hb715.lt
        have y722 := hb716.lt
        have y723 := hb717.lt
        have y724 := hb718.lt
        have y725 := hb719.lt
        have o726 := X701.bd
        have o727 := X702.bd
        have o728 := X703.bd
        have o729 := X704.bd
        have o730 := X705.bd
        have o731 := X706.bd
        have o732 := X707.bd
        have o733 := X708.bd
        have o734 := X720.bd
        have a735 := ho711.ltb
        have a736 := ho712.ltb
        have a737 := ho713.ltb
        have a738 := ho714.ltb
        refine AL.w rfl (.inl rfl) (WV.call fn16 rfl (implBS_ok n p k ho711.rd (rd_ofO ho712.rd) n2 p2 k2 ho713.rd (rd_ofO ho714.rd))) ?_
        rintro _ H742 ⟨⟨u739, v740, B741, rfl, ho744, ho745⟩, hx743⟩
        have q748 := Nat.le_trans q700 hx743.bd
        have q749 := Nat.le_trans q710 hx743.bd
        have X750 := Ext.trans X701 hx743
        have X751 := Ext.trans X702 hx743
        have X752 := Ext.trans X703 hx743
        have X753 := Ext.trans X704 hx743
        have X754 := Ext.trans X705 hx743
        have X755 := Ext.trans X706 hx743
        have X756 := Ext.trans X707 hx743
        have X757 := Ext.trans X708 hx743
        have X758 := Ext.trans X720 hx743
        have ho759 := ho711.ext hx743
        have ho760 := ho712.ext hx743
        have ho761 := ho713.ext hx743
        have ho762 := ho714.ext hx743
        have hb763 := hb715.ext hx743
        have hb764 := hb716.ext hx743
        have hb765 := hb717.ext hx743
        have hb766 := hb718.ext hx743
        have hb767 := hb719.ext hx743
        have X768 := Ext.refl H742
        have hr746 := ho744.okk (ok' := fun b => (H697.bd ≤ b ∧ b < B741) ∧ b < H742.bd) (fun b hb hlt => ⟨hb, hlt⟩)
        have hr747 := ho745.okk (ok' := fun b => (H697.bd ≤ b ∧ B741 ≤ b) ∧ b < H742.bd) (fun b hb hlt => ⟨hb, hlt⟩)
        refine AL.val rfl (.inl rfl) (HV.mv rfl) ?_
        refine AL.val rfl (.inl rfl) (HV.ex rfl rfl) ?_
        refine AL.val rfl (.inl rfl) (HV.ex rfl rfl) ?_
        refine AL.w rfl (.inl rfl) (WV.al ze31 rfl) ?_
        rintro _ H772 ⟨b771, rfl, hx773, hn774, hb775⟩
        have o776 := Nat.le_trans X750.bd hn774
        have o777 := Nat.le_trans X751.bd hn774
        have o778 := Nat.le_trans X752.bd hn774
        have o779 := Nat.le_trans X753.bd hn774
        have o780 := Nat.le_trans X754.bd hn774
        have o781 := Nat.le_trans X755.bd hn774
        have o782 := Nat.le_trans X756.bd hn774
        have o783 := Nat.le_trans X757.bd hn774
        have o784 := Nat.le_trans X758.bd hn774
        have o785 := Nat.le_trans X768.bd hn774
        have o786 := Nat.le_trans q748 hn774
        have o787 := Nat.le_trans q749 hn774
        have ne788 : b5 ≠ b771 := by have := hb763.lt; omega
        have ne789 : b13 ≠ b771 := by have := hb764.lt; omega
        have ne790 : b10 ≠ b771 := by have := hb765.lt; omega
        have ne791 : b578 ≠ b771 := by have := hb766.lt; omega
        have ne792 : b661 ≠ b771 := by have := hb767.lt; omega
        have q793 := Nat.le_trans q748 hx773.bd
        have q794 := Nat.le_trans q749 hx773.bd
        have X795 := Ext.trans X750 hx773
        have X796 := Ext.trans X751 hx773
        have X797 := Ext.trans X752 hx773
        have X798 := Ext.trans X753 hx773
        have X799 := Ext.trans X754 hx773
        have X800 := Ext.trans X755 hx773
        have X801 := Ext.trans X756 hx773
        have X802 := Ext.trans X757 hx773
        have X803 := Ext.trans X758 hx773
        have X804 := Ext.trans X768 hx773
        have ho805 := ho759.ext hx773
        have ho806 := ho760.ext hx773
        have ho807 := ho761.ext hx773
        have ho808 := ho762.ext hx773
        have ho809 := hr746.ext hx773
        have ho810 := hr747.ext hx773
        have hb811 := hb763.ext hx773
        have hb812 := hb764.ext hx773
        have hb813 := hb765.ext hx773
        have hb814 := hb766.ext hx773
        have hb815 := hb767.ext hx773
        have X816 := Ext.refl H772
        refine AL.w0 (.inl rfl) (WV.st rfl rfl va31 rfl hb775 (Nat.le_of_ble_eq_true rfl) (one_cons rfl (one_cons (sl_one1 ho809.rd.isSl) (one_cons rfl (one_cons rfl (one_cons (sl_one1 (rd_ofO ho810.rd).isSl) one_nil)))))) ?_
        rintro _ H817 ⟨hx818, hb819⟩
        have q820 := Nat.le_trans q793 hx818.bd
        have q821 := Nat.le_trans q794 hx818.bd
        have X822 := Ext.thru X795 hx818 (fun z_ hz_ => by rw [hz_]; exact o776)
        have X823 := Ext.thru X796 hx818 (fun z_ hz_ => by rw [hz_]; exact o777)
        have X824 := Ext.thru X797 hx818 (fun z_ hz_ => by rw [hz_]; exact o778)
        have X825 := Ext.thru X798 hx818 (fun z_ hz_ => by rw [hz_]; exact o779)
        have X826 := Ext.thru X799 hx818 (fun z_ hz_ => by rw [hz_]; exact o780)
        have X827 := Ext.thru X800 hx818 (fun z_ hz_ => by rw [hz_]; exact o781)
        have X828 := Ext.thru X801 hx818 (fun z_ hz_ => by rw [hz_]; exact o782)
        have X829 := Ext.thru X802 hx818 (fun z_ hz_ => by rw [hz_]; exact o783)
        have X830 := Ext.thru X803 hx818 (fun z_ hz_ => by rw [hz_]; exact o784)
        have X831 := Ext.thru X804 hx818 (fun z_ hz_ => by rw [hz_]; exact o785)
        have q833 := Nat.le_trans X816.bd hx818.bd
        have ho834 := ho805.but hx818 (fun b hb _ e => by have hb' : (H1_.bd ≤ b ∧ b < B560) ∧ b < H561.bd := hb; have e' : b = b771 := e; omega) (fun z_ hz_ => by rw [hz_]; exact hb775.w)
        have ho835 := ho806.but hx818 (fun b hb _ e => by have hb' : (H1_.bd ≤ b ∧ B560 ≤ b) ∧ b < H561.bd := hb; have e' : b = b771 := e; omega) (fun z_ hz_ => by rw [hz_]; exact hb775.w)
        have ho836 := ho807.but hx818 (fun b hb _ e => by have hb' : (H604.bd ≤ b ∧ b < B637) ∧ b < H638.bd := hb; have e' : b = b771 := e; omega) (fun z_ hz_ => by rw [hz_]; exact hb775.w)
        have ho837 := ho808.but hx818 (fun b hb _ e => by have hb' : (H604.bd ≤ b ∧ B637 ≤ b) ∧ b < H638.bd := hb; have e' : b = b771 := e; omega) (fun z_ hz_ => by rw [hz_]; exact hb775.w)
        have ho838 := ho809.but hx818 (fun b hb _ e => by have hb' : (H697.bd ≤ b ∧ b < B741) ∧ b < H742.bd := hb; have e' : b = b771 := e; omega) (fun z_ hz_ => by rw [hz_]; exact hb775.w)
        have ho839 := ho810.but hx818 (fun b hb _ e => by have hb' : (H697.bd ≤ b ∧ B741 ≤ b) ∧ b < H742.bd := hb; have e' : b = b771 := e; omega) (fun z_ hz_ => by rw [hz_]; exact hb775.w)
        have hb840 := hb811.but hx818 ne788
        have hb841 := hb812.but hx818 ne789
        have hb842 := hb813.but hx818 ne790
        have hb843 := hb814.but hx818 ne791
        have hb844 := hb815.but hx818 ne792
        have hb845 : At W H817 b771 ⟨31, [.int .i64 (zI (bsC n o p k l n2 o2 p2 k2 l2) n), u739, .int .i64 (zI (bsC n o p k l n2 o2 p2 k2 l2) p), .int .i64 (zI (bsC n o p k l n2 o2 p2 k2 l2) (k + k2)), v740], 5⟩ := hb819
        refine AL.val rfl (.inl rfl) (HV.as rfl) ?_
        refine AL.nx ?_
        refine AW.seq ?_
        refine AW.rs ?_
        refine AL.val rfl (.inl rfl) (HV.lda (cs := [.int .i64 (zI (bsC n o p k l n2 o2 p2 k2 l2) n), u739, .int .i64 (zI (bsC n o p k l n2 o2 p2 k2 l2) p), .int .i64 (zI (bsC n o p k l n2 o2 p2 k2 l2) (k + k2)), v740]) rfl va31 (at_cells hb845 rfl)) ?_
        refine AL.val rfl (.inl rfl) (HV.lda (cs := [.int .i64 (zI (bsC n o p k l n2 o2 p2 k2 l2) n), u1, .int .i64 (zI (bsC n o p k l n2 o2 p2 k2 l2) p), .int .i64 (zI (bsC n o p k l n2 o2 p2 k2 l2) (k + k2)), u2]) rfl va31 (at_cells hb842 rfl)) ?_
        refine AL.w rfl (.inl rfl) (WV.call fn17 rfl (eqSc_ok (zI (bsC n o p k l n2 o2 p2 k2 l2) n) (zI (bsC n o p k l n2 o2 p2 k2 l2) p) (zI (bsC n o p k l n2 o2 p2 k2 l2) (k + k2)) (zI (bsC n o p k l n2 o2 p2 k2 l2) n) (zI (bsC n o p k l n2 o2 p2 k2 l2) p) (zI (bsC n o p k l n2 o2 p2 k2 l2) (k + k2)) ho838.rd (rd_ofO ho839.rd) (hru1.ext X826) (hru2.ext X826))) ?_
        rintro _ H846 ⟨rfl, hx847⟩
        have q848 := Nat.le_trans q820 hx847.bd
        have q849 := Nat.le_trans q821 hx847.bd
        have q850 := Nat.le_trans q833 hx847.bd
        have X851 := Ext.trans X822 hx847
        have X852 := Ext.trans X823 hx847
        have X853 := Ext.trans X824 hx847
        have X854 := Ext.trans X825 hx847
        have X855 := Ext.trans X826 hx847
        have X856 := Ext.trans X827 hx847
        have X857 := Ext.trans X828 hx847
        have X858 := Ext.trans X829 hx847
        have X859 := Ext.trans X830 hx847
        have X860 := Ext.trans X831 hx847
        have ho861 := ho834.ext hx847
        have ho862 := ho835.ext hx847
        have ho863 := ho836.ext hx847
        have ho864 := ho837.ext hx847
        have ho865 := ho838.ext hx847
        have ho866 := ho839.ext hx847
        have hb867 := hb840.ext hx847
        have hb868 := hb841.ext hx847
        have hb869 := hb842.ext hx847
        have hb870 := hb843.ext hx847
        have hb871 := hb844.ext hx847
        have hb872 := hb845.ext hx847
        refine AL.val rfl (.inl rfl) (HV.not rfl) ?_
        refine AL.val rfl (.inl rfl) (HV.mv rfl) ?_
        by_cases c873 : (zI (bsC n o p k l n2 o2 p2 k2 l2) n) = (zI (bsC n o p k l n2 o2 p2 k2 l2) n) ∧ (zL (bsC n o p k l n2 o2 p2 k2 l2) (o ++ o2)) = (zL (bsC n o p k l n2 o2 p2 k2 l2) (o ++ o2)) ∧ (zI (bsC n o p k l n2 o2 p2 k2 l2) p) = (zI (bsC n o p k l n2 o2 p2 k2 l2) p) ∧ (zI (bsC n o p k l n2 o2 p2 k2 l2) (k + k2)) = (zI (bsC n o p k l n2 o2 p2 k2 l2) (k + k2)) ∧ (zL (bsC n o p k l n2 o2 p2 k2 l2) (joL p k k2 l l2)) = (zL (bsC n o p k l n2 o2 p2 k2 l2) (joL p k k2 l l2))
        · -- false
          have c873_ : (!decide ((zI (bsC n o p k l n2 o2 p2 k2 l2) n) = (zI (bsC n o p k l n2 o2 p2 k2 l2) n) ∧ (zL (bsC n o p k l n2 o2 p2 k2 l2) (o ++ o2)) = (zL (bsC n o p k l n2 o2 p2 k2 l2) (o ++ o2)) ∧ (zI (bsC n o p k l n2 o2 p2 k2 l2) p) = (zI (bsC n o p k l n2 o2 p2 k2 l2) p) ∧ (zI (bsC n o p k l n2 o2 p2 k2 l2) (k + k2)) = (zI (bsC n o p k l n2 o2 p2 k2 l2) (k + k2)) ∧ (zL (bsC n o p k l n2 o2 p2 k2 l2) (joL p k k2 l l2)) = (zL (bsC n o p k l n2 o2 p2 k2 l2) (joL p k k2 l l2)))) = false := by rw [decide_eq_true c873]; rfl
          rw [c873_]
          refine AL.val rfl (.inr ⟨_, _, _, rfl, rfl, rfl⟩) (HV.mv rfl) ?_
          refine AL.val rfl (.inr ⟨_, _, _, rfl, rfl, rfl⟩) (HV.mv rfl) ?_
          refine AL.val rfl (.inr ⟨_, _, _, rfl, rfl, rfl⟩) (HV.nei rfl rfl) ?_
          refine AL.val rfl (.inl rfl) (HV.pickF rfl rfl) ?_
          refine AL.nx ?_
          refine AW.ifd rfl (fun c874 => ?_) (fun c874 => ?_)
          · -- then
            refine AW.rs ?_
            refine AL.val rfl (.inl rfl) (HV.as rfl) ?_
            refine AL.nx ?_
            refine AW.ret ?_
            refine ret_and ?_
            refine post_one rfl rfl ?_ (.inr rfl)
            exfalso; first | omega | (simp at c874; done) | exact c874 ⟨rfl, rfl, rfl, rfl, rfl⟩ | exact absurd c874 (by simp)
          · -- else
            refine AW.skip ?_
            refine nrm_and ?_
            refine AW.seq ?_
            refine AW.seq ?_
            refine AW.draw' [0, 0, 2, 7, 15] mixed (by rfl) ?_
            refine Dr.read 0 _ 54 _ rfl rfl rfl rfl rfl (RV.of (by intro _ _ h; cases h) (.inl rfl) (fun _ xd => HV.lda (cs := [.int .i64 n, u558, .int .i64 p, .int .i64 k, v559]) rfl va31 (fun j u hu => rdc_ext xd ((at_cells hb870 rfl) j u hu)))) ?_
            refine Dr.read 1 _ 55 _ rfl rfl rfl rfl rfl (RV.of (by intro _ _ h; cases h) (.inl rfl) (fun _ xd => HV.lda (cs := [.int .i64 n, vo, .int .i64 p, .int .i64 k, v]) rfl va27 (fun j u hu => rdc_ext xd ((at_cells hb867 rfl) j u hu)))) ?_
            refine Dr.eff 2 _ _ rfl (by intro d h; cases h; exact ⟨rfl, rfl⟩) rfl rfl rfl (EC.of (by intro _ _ h; cases h) (.inl rfl) (WV.call fn15 rfl (toSc_ok n p k (ho.ext X851) (hr.ext X851) (he30 (by omega)).1 (he30 (by omega)).2))) (fun v H' h => .inl (h.2)) ?_
            rintro _ H878 ⟨⟨u875, v876, B877, rfl, ho880, ho881⟩, hx879⟩
            have q884 := Nat.le_trans q848 hx879.bd
            have q885 := Nat.le_trans q849 hx879.bd
            have q886 := Nat.le_trans q850 hx879.bd
            have X887 := Ext.trans X851 hx879
            have X888 := Ext.trans X852 hx879
            have X889 := Ext.trans X853 hx879
            have X890 := Ext.trans X854 hx879
            have X891 := Ext.trans X855 hx879
            have X892 := Ext.trans X856 hx879
            have X893 := Ext.trans X857 hx879
            have X894 := Ext.trans X858 hx879
            have X895 := Ext.trans X859 hx879
            have X896 := Ext.trans X860 hx879
            have ho897 := ho861.ext hx879
            have ho898 := ho862.ext hx879
            have ho899 := ho863.ext hx879
            have ho900 := ho864.ext hx879
            have ho901 := ho865.ext hx879
            have ho902 := ho866.ext hx879
            have hb903 := hb867.ext hx879
            have hb904 := hb868.ext hx879
            have hb905 := hb869.ext hx879
            have hb906 := hb870.ext hx879
            have hb907 := hb871.ext hx879
            have hb908 := hb872.ext hx879
            have X909 := Ext.refl H878
            have hr882 := ho880.rd
            have hr883 := rd_ofO ho881.rd
            refine Dr.eff 3 _ _ rfl (by intro d h; cases h; exact ⟨rfl, rfl⟩) rfl rfl rfl (EC.of (by intro _ _ h; cases h) (.inl rfl) (WV.call fn17 rfl (eqSc_ok n p k n p k ho897.rd (rd_ofO ho898.rd) hr882 hr883))) (fun v H' h => .inl (h.2)) ?_
            rintro _ H910 ⟨rfl, hx911⟩
            have q912 := Nat.le_trans q884 hx911.bd
            have q913 := Nat.le_trans q885 hx911.bd
            have q914 := Nat.le_trans q886 hx911.bd
            have X915 := Ext.trans X887 hx911
            have X916 := Ext.trans X888 hx911
            have X917 := Ext.trans X889 hx911
            have X918 := Ext.trans X890 hx911
            have X919 := Ext.trans X891 hx911
            have X920 := Ext.trans X892 hx911
            have X921 := Ext.trans X893 hx911
            have X922 := Ext.trans X894 hx911
            have X923 := Ext.trans X895 hx911
            have X924 := Ext.trans X896 hx911
            have X925 := Ext.trans X909 hx911
            have ho926 := ho897.ext hx911
            have ho927 := ho898.ext hx911
            have ho928 := ho899.ext hx911
            have ho929 := ho900.ext hx911
            have ho930 := ho901.ext hx911
            have ho931 := ho902.ext hx911
            have hb932 := hb903.ext hx911
            have hb933 := hb904.ext hx911
            have hb934 := hb905.ext hx911
            have hb935 := hb906.ext hx911
            have hb936 := hb907.ext hx911
            have hb937 := hb908.ext hx911
            refine Dr.read 4 _ 58 _ rfl rfl rfl rfl rfl (RV.of (by intro _ _ h; cases h) (.inl rfl) (fun _ xd => HV.not rfl)) ?_
            refine Dr.fin rfl ?_
            refine nrm_and ?_
            refine AW.ifn rfl (fun c938 => ?_) (fun c938 => ?_)
            · -- then
              refine AW.rs ?_
              refine AL.val rfl (.inl rfl) (HV.as rfl) ?_
              refine AL.nx ?_
              refine AW.ret ?_
              refine ret_and ?_
              refine post_one rfl rfl ?_ (.inr rfl)
              exfalso; first | omega | (simp at c938; done) | exact c938 ⟨rfl, rfl, rfl, rfl, rfl⟩ | exact absurd c938 (by simp)
            · -- else
              refine AW.skip ?_
              refine nrm_and ?_
              refine AW.seq ?_
              refine AW.seq ?_
              refine AW.draw' [0, 0, 2, 7, 15] mixed (by rfl) ?_
              refine Dr.read 0 _ 59 _ rfl rfl rfl rfl rfl (RV.of (by intro _ _ h; cases h) (.inl rfl) (fun _ xd => HV.lda (cs := [.int .i64 n2, u635, .int .i64 p2, .int .i64 k2, v636]) rfl va31 (fun j u hu => rdc_ext xd ((at_cells hb936 rfl) j u hu)))) ?_
              refine Dr.read 1 _ 60 _ rfl rfl rfl rfl rfl (RV.of (by intro _ _ h; cases h) (.inl rfl) (fun _ xd => HV.lda (cs := [.int .i64 n2, vo2, .int .i64 p2, .int .i64 k2, v2]) rfl va27 (fun j u hu => rdc_ext xd ((at_cells hb933 rfl) j u hu)))) ?_
              refine Dr.eff 2 _ _ rfl (by intro d h; cases h; exact ⟨rfl, rfl⟩) rfl rfl rfl (EC.of (by intro _ _ h; cases h) (.inl rfl) (WV.call fn15 rfl (toSc_ok n2 p2 k2 (ho2.ext X915) (hr2.ext X915) (he42 (by omega)).1 (he42 (by omega)).2))) (fun v H' h => .inl (h.2)) ?_
              rintro _ H942 ⟨⟨u939, v940, B941, rfl, ho944, ho945⟩, hx943⟩
              have q948 := Nat.le_trans q912 hx943.bd
              have q949 := Nat.le_trans q913 hx943.bd
              have q950 := Nat.le_trans q914 hx943.bd
              have X951 := Ext.trans X915 hx943
              have X952 := Ext.trans X916 hx943
              have X953 := Ext.trans X917 hx943
              have X954 := Ext.trans X918 hx943
              have X955 := Ext.trans X919 hx943
              have X956 := Ext.trans X920 hx943
              have X957 := Ext.trans X921 hx943
              have X958 := Ext.trans X922 hx943
              have X959 := Ext.trans X923 hx943
              have X960 := Ext.trans X924 hx943
              have X961 := Ext.trans X925 hx943
              have ho962 := ho926.ext hx943
              have ho963 := ho927.ext hx943
              have ho964 := ho928.ext hx943
              have ho965 := ho929.ext hx943
              have ho966 := ho930.ext hx943
              have ho967 := ho931.ext hx943
              have hb968 := hb932.ext hx943
              have hb969 := hb933.ext hx943
              have hb970 := hb934.ext hx943
              have hb971 := hb935.ext hx943
              have hb972 := hb936.ext hx943
              have hb973 := hb937.ext hx943
              have X974 := Ext.refl H942
              have hr946 := ho944.rd
              have hr947 := rd_ofO ho945.rd
              refine Dr.eff 3 _ _ rfl (by intro d h; cases h; exact ⟨rfl, rfl⟩) rfl rfl rfl (EC.of (by intro _ _ h; cases h) (.inl rfl) (WV.call fn17 rfl (eqSc_ok n2 p2 k2 n2 p2 k2 ho964.rd (rd_ofO ho965.rd) hr946 hr947))) (fun v H' h => .inl (h.2)) ?_
              rintro _ H975 ⟨rfl, hx976⟩
              have q977 := Nat.le_trans q948 hx976.bd
              have q978 := Nat.le_trans q949 hx976.bd
              have q979 := Nat.le_trans q950 hx976.bd
              have X980 := Ext.trans X951 hx976
              have X981 := Ext.trans X952 hx976
              have X982 := Ext.trans X953 hx976
              have X983 := Ext.trans X954 hx976
              have X984 := Ext.trans X955 hx976
              have X985 := Ext.trans X956 hx976
              have X986 := Ext.trans X957 hx976
              have X987 := Ext.trans X958 hx976
              have X988 := Ext.trans X959 hx976
              have X989 := Ext.trans X960 hx976
              have X990 := Ext.trans X961 hx976
              have X991 := Ext.trans X974 hx976
              have ho992 := ho962.ext hx976
              have ho993 := ho963.ext hx976
              have ho994 := ho964.ext hx976
              have ho995 := ho965.ext hx976
              have ho996 := ho966.ext hx976
              have ho997 := ho967.ext hx976
              have hb998 := hb968.ext hx976
              have hb999 := hb969.ext hx976
              have hb1000 := hb970.ext hx976
              have hb1001 := hb971.ext hx976
              have hb1002 := hb972.ext hx976
              have hb1003 := hb973.ext hx976
              refine Dr.read 4 _ 63 _ rfl rfl rfl rfl rfl (RV.of (by intro _ _ h; cases h) (.inl rfl) (fun _ xd => HV.not rfl)) ?_
              refine Dr.fin rfl ?_
              refine nrm_and ?_
              refine AW.ifn rfl (fun c1004 => ?_) (fun c1004 => ?_)
              · -- then
                refine AW.rs ?_
                refine AL.val rfl (.inl rfl) (HV.as rfl) ?_
                refine AL.nx ?_
                refine AW.ret ?_
                refine ret_and ?_
                refine post_one rfl rfl ?_ (.inr rfl)
                exfalso; first | omega | (simp at c1004; done) | exact c1004 ⟨rfl, rfl, rfl, rfl, rfl⟩ | exact absurd c1004 (by simp)
              · -- else
                refine AW.skip ?_
                refine nrm_and ?_
                refine AW.rs ?_
                refine AL.val rfl (.inl rfl) (HV.as rfl) ?_
                refine AL.nx ?_
                refine AW.rs ?_
                refine AL.val rfl (.inl rfl) (HV.lda (cs := [.int .i64 n, u558, .int .i64 p, .int .i64 k, v559]) rfl va31 (at_cells hb1001 rfl)) ?_
                refine AL.val rfl (.inl rfl) (HV.mv rfl) ?_
                refine AL.w rfl (.inl rfl) (WV.call fn18 rfl (markSc3_ok n p k ho992 ho993 (fun b h1 h2 => by have a1 := h1.1.2; have a2 := h2.1.2; omega) (fun b h => by have a1 : H1_.bd ≤ b := h.1.1; omega) (he30 (by omega)).1 (he30 (by omega)).2 1 (by omega))) ?_
                rintro _ H1005 ⟨⟨ko1006, kl1007, rfl, e1010, e1011, e1012, e1013, ho1014, ho1015⟩, hx1008⟩
                have hx1009 := But.mono hx1008 (fun b e => (e.elim (fun q => ⟨q.1.1, q.2⟩) (fun q => ⟨q.1.1, q.2⟩) : H1_.bd ≤ b ∧ b < H561.bd))
                have hof1016 := offs_le (B := 1048576) ((he30 (by omega))).2.2 l.length (Nat.le_refl _)
                have hz1017 := (he30 (by omega)).1
                have hz1018 := (he30 (by omega)).2.1
                have q1019 := Nat.le_trans q977 hx1009.bd
                have q1020 := Nat.le_trans q978 hx1009.bd
                have q1021 := Nat.le_trans q979 hx1009.bd
                have X1022 := Ext.thru X980 hx1009 (fun b hb => Nat.le_trans o553 hb.1)
                have X1023 := Ext.thru X981 hx1009 (fun b hb => Nat.le_trans o554 hb.1)
                have X1024 := Ext.thru X982 hx1009 (fun b hb => Nat.le_trans o555 hb.1)
                have X1025 := Ext.thru X983 hx1009 (fun b hb => Nat.le_trans o556 hb.1)
                have X1026 := Ext.thru X984 hx1009 (fun b hb => Nat.le_trans o557 hb.1)
                have q1028 := Nat.le_trans X985.bd hx1009.bd
                have q1030 := Nat.le_trans X986.bd hx1009.bd
                have q1032 := Nat.le_trans X987.bd hx1009.bd
                have q1034 := Nat.le_trans X988.bd hx1009.bd
                have q1036 := Nat.le_trans X989.bd hx1009.bd
                have q1038 := Nat.le_trans X990.bd hx1009.bd
                have q1040 := Nat.le_trans X991.bd hx1009.bd
                have ho1041 := ho994.but hx1009 (fun b hb _ e => by have h1 : (H604.bd ≤ b ∧ b < B637) ∧ b < H638.bd := hb; have h2 : H1_.bd ≤ b ∧ b < H561.bd := e; omega) (fun b hb => by have h2 : H1_.bd ≤ b ∧ b < H561.bd := hb; omega)
                have ho1042 := ho995.but hx1009 (fun b hb _ e => by have h1 : (H604.bd ≤ b ∧ B637 ≤ b) ∧ b < H638.bd := hb; have h2 : H1_.bd ≤ b ∧ b < H561.bd := e; omega) (fun b hb => by have h2 : H1_.bd ≤ b ∧ b < H561.bd := hb; omega)
                have ho1043 := ho996.but hx1009 (fun b hb _ e => by have h1 : (H697.bd ≤ b ∧ b < B741) ∧ b < H742.bd := hb; have h2 : H1_.bd ≤ b ∧ b < H561.bd := e; omega) (fun b hb => by have h2 : H1_.bd ≤ b ∧ b < H561.bd := hb; omega)
                have ho1044 := ho997.but hx1009 (fun b hb _ e => by have h1 : (H697.bd ≤ b ∧ B741 ≤ b) ∧ b < H742.bd := hb; have h2 : H1_.bd ≤ b ∧ b < H561.bd := e; omega) (fun b hb => by have h2 : H1_.bd ≤ b ∧ b < H561.bd := hb; omega)
                have hb1045 := hb998.but hx1009 (fun e => by have q : H1_.bd ≤ b5 ∧ b5 < H561.bd := e; omega)
                have hb1046 := hb999.but hx1009 (fun e => by have q : H1_.bd ≤ b13 ∧ b13 < H561.bd := e; omega)
                have hb1047 := hb1000.but hx1009 (fun e => by have q : H1_.bd ≤ b10 ∧ b10 < H561.bd := e; omega)
                have hb1048 := hb1001.but hx1009 (fun e => by have q : H1_.bd ≤ b578 ∧ b578 < H561.bd := e; omega)
                have hb1049 := hb1002.but hx1009 (fun e => by have q : H1_.bd ≤ b661 ∧ b661 < H561.bd := e; omega)
                have hb1050 := hb1003.but hx1009 (fun e => by have q : H1_.bd ≤ b771 ∧ b771 < H561.bd := e; omega)
                refine AL.val rfl (.inl rfl) (HV.as rfl) ?_
                refine AL.nx ?_
                refine AW.rs ?_
                refine AL.val rfl (.inl rfl) (HV.lda (cs := [.int .i64 n2, u635, .int .i64 p2, .int .i64 k2, v636]) rfl va31 (at_cells hb1049 rfl)) ?_
                refine AL.val rfl (.inl rfl) (HV.mv rfl) ?_
                refine AL.w rfl (.inl rfl) (WV.call fn18 rfl (markSc3_ok n2 p2 k2 ho1041 ho1042 (fun b h1 h2 => by have a1 := h1.1.2; have a2 := h2.1.2; omega) (fun b h => by have a1 : H604.bd ≤ b := h.1.1; omega) (he42 (by omega)).1 (he42 (by omega)).2 (1 + (o.length : Int) + offs l l.length) (by omega))) ?_
                rintro _ H1051 ⟨⟨ko1052, kl1053, rfl, e1056, e1057, e1058, e1059, ho1060, ho1061⟩, hx1054⟩
                have hx1055 := But.mono hx1054 (fun b e => (e.elim (fun q => ⟨q.1.1, q.2⟩) (fun q => ⟨q.1.1, q.2⟩) : H604.bd ≤ b ∧ b < H638.bd))
                have hof1062 := offs_le (B := 1048576) ((he42 (by omega))).2.2 l2.length (Nat.le_refl _)
                have hz1063 := (he42 (by omega)).1
                have hz1064 := (he42 (by omega)).2.1
                have q1065 := Nat.le_trans q1019 hx1055.bd
                have q1066 := Nat.le_trans q1020 hx1055.bd
                have q1067 := Nat.le_trans q1021 hx1055.bd
                have q1068 := Nat.le_trans q1028 hx1055.bd
                have q1069 := Nat.le_trans q1030 hx1055.bd
                have q1070 := Nat.le_trans q1032 hx1055.bd
                have q1071 := Nat.le_trans q1034 hx1055.bd
                have q1072 := Nat.le_trans q1036 hx1055.bd
                have q1073 := Nat.le_trans q1038 hx1055.bd
                have q1074 := Nat.le_trans q1040 hx1055.bd
                have X1075 := Ext.thru X1022 hx1055 (fun b hb => Nat.le_trans o626 hb.1)
                have X1076 := Ext.thru X1023 hx1055 (fun b hb => Nat.le_trans o627 hb.1)
                have X1077 := Ext.thru X1024 hx1055 (fun b hb => Nat.le_trans o628 hb.1)
                have X1078 := Ext.thru X1025 hx1055 (fun b hb => Nat.le_trans o629 hb.1)
                have X1079 := Ext.thru X1026 hx1055 (fun b hb => Nat.le_trans o630 hb.1)
                have ho1080 := ho1043.but hx1055 (fun b hb _ e => by have h1 : (H697.bd ≤ b ∧ b < B741) ∧ b < H742.bd := hb; have h2 : H604.bd ≤ b ∧ b < H638.bd := e; omega) (fun b hb => by have h2 : H604.bd ≤ b ∧ b < H638.bd := hb; omega)
                have ho1081 := ho1044.but hx1055 (fun b hb _ e => by have h1 : (H697.bd ≤ b ∧ B741 ≤ b) ∧ b < H742.bd := hb; have h2 : H604.bd ≤ b ∧ b < H638.bd := e; omega) (fun b hb => by have h2 : H604.bd ≤ b ∧ b < H638.bd := hb; omega)
                have hb1082 := hb1045.but hx1055 (fun e => by have q : H604.bd ≤ b5 ∧ b5 < H638.bd := e; omega)
                have hb1083 := hb1046.but hx1055 (fun e => by have q : H604.bd ≤ b13 ∧ b13 < H638.bd := e; omega)
                have hb1084 := hb1047.but hx1055 (fun e => by have q : H604.bd ≤ b10 ∧ b10 < H638.bd := e; omega)
                have hb1085 := hb1048.but hx1055 (fun e => by have q : H604.bd ≤ b578 ∧ b578 < H638.bd := e; omega)
                have hb1086 := hb1049.but hx1055 (fun e => by have q : H604.bd ≤ b661 ∧ b661 < H638.bd := e; omega)
                have hb1087 := hb1050.but hx1055 (fun e => by have q : H604.bd ≤ b771 ∧ b771 < H638.bd := e; omega)
                refine AL.val rfl (.inl rfl) (HV.as rfl) ?_
                refine AL.nx ?_
                refine AW.seq ?_
                refine AW.rs ?_
                refine AL.val rfl (.inl rfl) (HV.mv rfl) ?_
                refine AL.val rfl (.inl rfl) (HV.lti rfl rfl) ?_
                refine AL.val rfl (.inl rfl) (HV.mv rfl) ?_
                by_cases c1088 : ((1 + (o.length : Int) + offs l l.length) + (o2.length : Int) + offs l2 l2.length) < 0
                · -- true
                  have c1088_ : decide (((1 + (o.length : Int) + offs l l.length) + (o2.length : Int) + offs l2 l2.length) < 0) = true := decide_eq_true c1088
                  rw [c1088_]
                  refine AL.off rfl rfl (by decide) rfl ?_
                  refine AL.off rfl rfl (by decide) rfl ?_
                  refine AL.off rfl rfl (by decide) rfl ?_
                  refine AL.off rfl rfl (by decide) rfl ?_
                  refine AL.val rfl (.inl rfl) (HV.pickT rfl rfl) ?_
                  refine AL.val rfl (.inl rfl) (HV.mv rfl) ?_
                  refine AL.off rfl rfl (by decide) rfl ?_
                  refine AL.off rfl rfl (by decide) rfl ?_
                  refine AL.off rfl rfl (by decide) rfl ?_
                  refine AL.val rfl (.inl rfl) (HV.pickT rfl rfl) ?_
                  refine AL.nx ?_
                  refine AW.cond rfl (fun _ => ?_) (fun h => by cases h)
                  refine AW.rs ?_
                  refine AL.val rfl (.inl rfl) (HV.as rfl) ?_
                  refine AL.nx ?_
                  refine AW.ret ?_
                  refine ret_and ?_
                  refine post_one rfl rfl ?_ (.inr rfl)
                  exfalso; first | omega | (simp at c1088; done) | exact c1088 ⟨rfl, rfl, rfl, rfl, rfl⟩ | exact absurd c1088 (by simp)
                · -- false
                  have c1088_ : decide (((1 + (o.length : Int) + offs l l.length) + (o2.length : Int) + offs l2 l2.length) < 0) = false := decide_eq_false c1088
                  rw [c1088_]
                  refine AL.val rfl (.inr ⟨_, _, _, rfl, rfl, rfl⟩) (HV.lda (cs := [.int .i64 (zI (bsC n o p k l n2 o2 p2 k2 l2) n), u739, .int .i64 (zI (bsC n o p k l n2 o2 p2 k2 l2) p), .int .i64 (zI (bsC n o p k l n2 o2 p2 k2 l2) (k + k2)), v740]) rfl va31 (at_cells hb1087 rfl)) ?_
                  refine AL.val rfl (.inr ⟨_, _, _, rfl, rfl, rfl⟩) (HV.lda (cs := [.int .i64 (zI (bsC n o p k l n2 o2 p2 k2 l2) n), u1, .int .i64 (zI (bsC n o p k l n2 o2 p2 k2 l2) p), .int .i64 (zI (bsC n o p k l n2 o2 p2 k2 l2) (k + k2)), u2]) rfl va31 (at_cells hb1084 rfl)) ?_
                  refine AL.w rfl (.inr ⟨_, _, _, rfl, rfl, rfl⟩) (WV.call fn17 rfl (eqSc_ok (zI (bsC n o p k l n2 o2 p2 k2 l2) n) (zI (bsC n o p k l n2 o2 p2 k2 l2) p) (zI (bsC n o p k l n2 o2 p2 k2 l2) (k + k2)) (zI (bsC n o p k l n2 o2 p2 k2 l2) n) (zI (bsC n o p k l n2 o2 p2 k2 l2) p) (zI (bsC n o p k l n2 o2 p2 k2 l2) (k + k2)) ho1080.rd (rd_ofO ho1081.rd) (hru1.ext X1079) (hru2.ext X1079))) ?_
                  rintro _ H1090 ⟨rfl, hx1091⟩
                  have q1092 := Nat.le_trans q1065 hx1091.bd
                  have q1093 := Nat.le_trans q1066 hx1091.bd
                  have q1094 := Nat.le_trans q1067 hx1091.bd
                  have q1095 := Nat.le_trans q1068 hx1091.bd
                  have q1096 := Nat.le_trans q1069 hx1091.bd
                  have q1097 := Nat.le_trans q1070 hx1091.bd
                  have q1098 := Nat.le_trans q1071 hx1091.bd
                  have q1099 := Nat.le_trans q1072 hx1091.bd
                  have q1100 := Nat.le_trans q1073 hx1091.bd
                  have q1101 := Nat.le_trans q1074 hx1091.bd
                  have X1102 := Ext.trans X1075 hx1091
                  have X1103 := Ext.trans X1076 hx1091
                  have X1104 := Ext.trans X1077 hx1091
                  have X1105 := Ext.trans X1078 hx1091
                  have X1106 := Ext.trans X1079 hx1091
                  have ho1107 := ho1080.ext hx1091
                  have ho1108 := ho1081.ext hx1091
                  have hb1109 := hb1082.ext hx1091
                  have hb1110 := hb1083.ext hx1091
                  have hb1111 := hb1084.ext hx1091
                  have hb1112 := hb1085.ext hx1091
                  have hb1113 := hb1086.ext hx1091
                  have hb1114 := hb1087.ext hx1091
                  refine AL.val rfl (.inr ⟨_, _, _, rfl, rfl, rfl⟩) (HV.not rfl) ?_
                  refine AL.val rfl (.inl rfl) (HV.pickF rfl rfl) ?_
                  refine AL.val rfl (.inl rfl) (HV.mv rfl) ?_
                  by_cases c1115 : (zI (bsC n o p k l n2 o2 p2 k2 l2) n) = (zI (bsC n o p k l n2 o2 p2 k2 l2) n) ∧ (zL (bsC n o p k l n2 o2 p2 k2 l2) (o ++ o2)) = (zL (bsC n o p k l n2 o2 p2 k2 l2) (o ++ o2)) ∧ (zI (bsC n o p k l n2 o2 p2 k2 l2) p) = (zI (bsC n o p k l n2 o2 p2 k2 l2) p) ∧ (zI (bsC n o p k l n2 o2 p2 k2 l2) (k + k2)) = (zI (bsC n o p k l n2 o2 p2 k2 l2) (k + k2)) ∧ (zL (bsC n o p k l n2 o2 p2 k2 l2) (joL p k k2 l l2)) = (zL (bsC n o p k l n2 o2 p2 k2 l2) (joL p k k2 l l2))
                  · -- false
                    have c1115_ : (!decide ((zI (bsC n o p k l n2 o2 p2 k2 l2) n) = (zI (bsC n o p k l n2 o2 p2 k2 l2) n) ∧ (zL (bsC n o p k l n2 o2 p2 k2 l2) (o ++ o2)) = (zL (bsC n o p k l n2 o2 p2 k2 l2) (o ++ o2)) ∧ (zI (bsC n o p k l n2 o2 p2 k2 l2) p) = (zI (bsC n o p k l n2 o2 p2 k2 l2) p) ∧ (zI (bsC n o p k l n2 o2 p2 k2 l2) (k + k2)) = (zI (bsC n o p k l n2 o2 p2 k2 l2) (k + k2)) ∧ (zL (bsC n o p k l n2 o2 p2 k2 l2) (joL p k k2 l l2)) = (zL (bsC n o p k l n2 o2 p2 k2 l2) (joL p k k2 l l2)))) = false := by rw [decide_eq_true c1115]; rfl
                    rw [c1115_]
                    refine AL.val rfl (.inr ⟨_, _, _, rfl, rfl, rfl⟩) (HV.mv rfl) ?_
                    refine AL.val rfl (.inr ⟨_, _, _, rfl, rfl, rfl⟩) (HV.mv rfl) ?_
                    refine AL.val rfl (.inr ⟨_, _, _, rfl, rfl, rfl⟩) (HV.nei rfl rfl) ?_
                    refine AL.val rfl (.inl rfl) (HV.pickF rfl rfl) ?_
                    refine AL.nx ?_
                    refine AW.ifd rfl (fun c1116 => ?_) (fun c1116 => ?_)
                    · -- then
                      refine AW.rs ?_
                      refine AL.val rfl (.inl rfl) (HV.as rfl) ?_
                      refine AL.nx ?_
                      refine AW.ret ?_
                      refine ret_and ?_
                      refine post_one rfl rfl ?_ (.inr rfl)
                      exfalso; first | omega | (simp at c1116; done) | exact c1116 ⟨rfl, rfl, rfl, rfl, rfl⟩ | exact absurd c1116 (by simp)
                    · -- else
                      refine AW.skip ?_
                      refine nrm_and ?_
                      refine AW.rs ?_
                      refine AL.val rfl (.inl rfl) (HV.as rfl) ?_
                      refine AL.nx ?_
                      refine AW.rs ?_
                      refine AL.val rfl (.inl rfl) (HV.lda (cs := [.int .i64 (zI (bsC n o p k l n2 o2 p2 k2 l2) n), u739, .int .i64 (zI (bsC n o p k l n2 o2 p2 k2 l2) p), .int .i64 (zI (bsC n o p k l n2 o2 p2 k2 l2) (k + k2)), v740]) rfl va31 (at_cells hb1114 rfl)) ?_
                      refine AL.val rfl (.inl rfl) (HV.mv rfl) ?_
                      refine AL.w rfl (.inl rfl) (WV.call fn18 rfl (markSc3_ok (zI (bsC n o p k l n2 o2 p2 k2 l2) n) (zI (bsC n o p k l n2 o2 p2 k2 l2) p) (zI (bsC n o p k l n2 o2 p2 k2 l2) (k + k2)) ho1107 ho1108 (fun b h1 h2 => by have a1 := h1.1.2; have a2 := h2.1.2; omega) (fun b h => by have a1 : H697.bd ≤ b := h.1.1; omega) bs_len.1 bs_len.2 1 (by omega))) ?_
                      rintro _ H1117 ⟨⟨ko1118, kl1119, rfl, e1122, e1123, e1124, e1125, ho1126, ho1127⟩, hx1120⟩
                      have hx1121 := But.mono hx1120 (fun b e => (e.elim (fun q => ⟨q.1.1, q.2⟩) (fun q => ⟨q.1.1, q.2⟩) : H697.bd ≤ b ∧ b < H742.bd))
                      have hof1128 := offs_le (B := 1048576) (bs_len (n := n) (o := o) (p := p) (k := k) (l := l) (n2 := n2) (o2 := o2) (p2 := p2) (k2 := k2) (l2 := l2)).2.2 (zL (bsC n o p k l n2 o2 p2 k2 l2) (joL p k k2 l l2)).length (Nat.le_refl _)
                      have q1131 := Nat.le_trans q1092 hx1121.bd
                      have q1132 := Nat.le_trans q1093 hx1121.bd
                      have q1133 := Nat.le_trans q1094 hx1121.bd
                      have q1134 := Nat.le_trans q1095 hx1121.bd
                      have q1135 := Nat.le_trans q1096 hx1121.bd
                      have q1136 := Nat.le_trans q1097 hx1121.bd
                      have q1137 := Nat.le_trans q1098 hx1121.bd
                      have q1138 := Nat.le_trans q1099 hx1121.bd
                      have q1139 := Nat.le_trans q1100 hx1121.bd
                      have q1140 := Nat.le_trans q1101 hx1121.bd
                      have X1141 := Ext.thru X1102 hx1121 (fun b hb => Nat.le_trans o726 hb.1)
                      have X1142 := Ext.thru X1103 hx1121 (fun b hb => Nat.le_trans o727 hb.1)
                      have X1143 := Ext.thru X1104 hx1121 (fun b hb => Nat.le_trans o728 hb.1)
                      have X1144 := Ext.thru X1105 hx1121 (fun b hb => Nat.le_trans o729 hb.1)
                      have X1145 := Ext.thru X1106 hx1121 (fun b hb => Nat.le_trans o730 hb.1)
                      have hb1146 := hb1109.but hx1121 (fun e => by have q : H697.bd ≤ b5 ∧ b5 < H742.bd := e; omega)
                      have hb1147 := hb1110.but hx1121 (fun e => by have q : H697.bd ≤ b13 ∧ b13 < H742.bd := e; omega)
                      have hb1148 := hb1111.but hx1121 (fun e => by have q : H697.bd ≤ b10 ∧ b10 < H742.bd := e; omega)
                      have hb1149 := hb1112.but hx1121 (fun e => by have q : H697.bd ≤ b578 ∧ b578 < H742.bd := e; omega)
                      have hb1150 := hb1113.but hx1121 (fun e => by have q : H697.bd ≤ b661 ∧ b661 < H742.bd := e; omega)
                      have hb1151 := hb1114.but hx1121 (fun e => by have q : H697.bd ≤ b771 ∧ b771 < H742.bd := e; omega)
                      refine AL.val rfl (.inl rfl) (HV.as rfl) ?_
                      refine AL.nx ?_
                      refine AW.rs ?_
                      refine AL.val rfl (.inl rfl) (HV.as rfl) ?_
                      refine AL.nx ?_
                      refine AW.rs ?_
                      refine AL.val rfl (.inl rfl) (HV.lda (cs := [.int .i64 (zI (bsC n o p k l n2 o2 p2 k2 l2) n), u739, .int .i64 (zI (bsC n o p k l n2 o2 p2 k2 l2) p), .int .i64 (zI (bsC n o p k l n2 o2 p2 k2 l2) (k + k2)), v740]) rfl va31 (at_cells hb1151 rfl)) ?_
                      refine AL.val rfl (.inl rfl) (HV.mv rfl) ?_
                      have hbz := bs_len (n := n) (o := o) (p := p) (k := k) (l := l) (n2 := n2) (o2 := o2) (p2 := p2) (k2 := k2) (l2 := l2)
                      refine AL.w rfl (.inl rfl) (WV.call fn19 rfl (heldSc_ok (zI (bsC n o p k l n2 o2 p2 k2 l2) n) (zI (bsC n o p k l n2 o2 p2 k2 l2) p) (zI (bsC n o p k l n2 o2 p2 k2 l2) (k + k2)) ho1126.rd (rd_ofO ho1127.rd) 1 (by omega) hbz.1 e1122 e1123 hbz.2 e1124 e1125)) ?_
                      rintro _ H1152 ⟨rfl, hx1153⟩
                      have q1154 := Nat.le_trans q1131 hx1153.bd
                      have q1155 := Nat.le_trans q1132 hx1153.bd
                      have q1156 := Nat.le_trans q1133 hx1153.bd
                      have q1157 := Nat.le_trans q1134 hx1153.bd
                      have q1158 := Nat.le_trans q1135 hx1153.bd
                      have q1159 := Nat.le_trans q1136 hx1153.bd
                      have q1160 := Nat.le_trans q1137 hx1153.bd
                      have q1161 := Nat.le_trans q1138 hx1153.bd
                      have q1162 := Nat.le_trans q1139 hx1153.bd
                      have q1163 := Nat.le_trans q1140 hx1153.bd
                      have X1164 := Ext.trans X1141 hx1153
                      have X1165 := Ext.trans X1142 hx1153
                      have X1166 := Ext.trans X1143 hx1153
                      have X1167 := Ext.trans X1144 hx1153
                      have X1168 := Ext.trans X1145 hx1153
                      have ho1169 := ho1126.ext hx1153
                      have ho1170 := ho1127.ext hx1153
                      have hb1171 := hb1146.ext hx1153
                      have hb1172 := hb1147.ext hx1153
                      have hb1173 := hb1148.ext hx1153
                      have hb1174 := hb1149.ext hx1153
                      have hb1175 := hb1150.ext hx1153
                      have hb1176 := hb1151.ext hx1153
                      refine AL.val rfl (.inl rfl) (HV.as rfl) ?_
                      refine AL.nx ?_
                      refine AW.seq ?_
                      refine AW.rs ?_
                      refine AL.val rfl (.inl rfl) (HV.mv rfl) ?_
                      refine AL.val rfl (.inl rfl) (HV.lti rfl rfl) ?_
                      refine AL.nx ?_
                      refine AW.ifd rfl (fun c1177 => ?_) (fun c1177 => ?_)
                      · -- then
                        refine AW.rs ?_
                        refine AL.val rfl (.inl rfl) (HV.as rfl) ?_
                        refine AL.nx ?_
                        refine AW.ret ?_
                        refine ret_and ?_
                        refine post_one rfl rfl ?_ (.inr rfl)
                        exfalso; first | omega | (simp at c1177; done) | exact c1177 ⟨rfl, rfl, rfl, rfl, rfl⟩ | exact absurd c1177 (by simp)
                      · -- else
                        refine AW.skip ?_
                        refine nrm_and ?_
                        refine AW.seq ?_
                        refine AW.rs ?_
                        refine AL.val rfl (.inl rfl) (HV.mv rfl) ?_
                        refine AL.val rfl (.inl rfl) (HV.mv rfl) ?_
                        refine AL.val rfl (.inl rfl) (HV.nei rfl rfl) ?_
                        refine AL.nx ?_
                        refine AW.ifd rfl (fun c1178 => ?_) (fun c1178 => ?_)
                        · -- then
                          refine AW.rs ?_
                          refine AL.val rfl (.inl rfl) (HV.as rfl) ?_
                          refine AL.nx ?_
                          refine AW.ret ?_
                          refine ret_and ?_
                          refine post_one rfl rfl ?_ (.inr rfl)
                          exfalso; first | omega | (simp at c1178; done) | exact c1178 ⟨rfl, rfl, rfl, rfl, rfl⟩ | exact absurd c1178 (by simp)
                        · -- else
                          refine AW.skip ?_
                          refine nrm_and ?_
                          refine AW.seq ?_
                          refine AW.draw' [0, 1, 0, 7, 15, 31, 63, 63, 0, 383, 1023] mixed (by rfl) ?_
                          refine Dr.read 0 _ 95 _ rfl rfl rfl rfl rfl (RV.of (by intro _ _ h; cases h) (.inl rfl) (fun _ xd => HV.lda (cs := [.int .i64 n, vo, .int .i64 p, .int .i64 k, v]) rfl va27 (fun j u hu => rdc_ext xd ((at_cells hb1171 rfl) j u hu)))) ?_
                          refine Dr.read 2 _ 97 _ rfl rfl rfl rfl rfl (RV.of (by intro _ _ h; cases h) (.inl rfl) (fun _ xd => HV.lda (cs := [.int .i64 n2, vo2, .int .i64 p2, .int .i64 k2, v2]) rfl va27 (fun j u hu => rdc_ext xd ((at_cells hb1172 rfl) j u hu)))) ?_
                          refine Dr.eff2 1 8 _ _ _ _  rfl rfl  (by intro d h; cases h; exact ⟨rfl, rfl⟩) (by intro d h; cases h; exact ⟨rfl, rfl⟩) rfl rfl  rfl rfl rfl  (EC.of (by intro _ _ h; cases h) (.inl rfl) (WV.call fn15 rfl (toSc_ok n p k (ho.ext X1164) (hr.ext X1164) (he30 (by omega)).1 (he30 (by omega)).2))) (EC.of (by intro _ _ h; cases h) (.inl rfl) (WV.al ze31 rfl)) (fun v H' h => .inl (h.2)) (fun v H' h => .inl (h.choose_spec.2.1)) ?_ ?_ 
                          · -- 1 first
                            rintro _ H1196 ⟨⟨u1193, v1194, B1195, rfl, ho1198, ho1199⟩, hx1197⟩
                            have q1202 := Nat.le_trans q1154 hx1197.bd
                            have q1203 := Nat.le_trans q1155 hx1197.bd
                            have q1204 := Nat.le_trans q1156 hx1197.bd
                            have q1205 := Nat.le_trans q1157 hx1197.bd
                            have q1206 := Nat.le_trans q1158 hx1197.bd
                            have q1207 := Nat.le_trans q1159 hx1197.bd
                            have q1208 := Nat.le_trans q1160 hx1197.bd
                            have q1209 := Nat.le_trans q1161 hx1197.bd
                            have q1210 := Nat.le_trans q1162 hx1197.bd
                            have q1211 := Nat.le_trans q1163 hx1197.bd
                            have X1212 := Ext.trans X1164 hx1197
                            have X1213 := Ext.trans X1165 hx1197
                            have X1214 := Ext.trans X1166 hx1197
                            have X1215 := Ext.trans X1167 hx1197
                            have X1216 := Ext.trans X1168 hx1197
                            have ho1217 := ho1169.ext hx1197
                            have ho1218 := ho1170.ext hx1197
                            have hb1219 := hb1171.ext hx1197
                            have hb1220 := hb1172.ext hx1197
                            have hb1221 := hb1173.ext hx1197
                            have hb1222 := hb1174.ext hx1197
                            have hb1223 := hb1175.ext hx1197
                            have hb1224 := hb1176.ext hx1197
                            have X1225 := Ext.refl H1196
                            have hr1200 := ho1198.rd
                            have hr1201 := rd_ofO ho1199.rd
                            refine Dr.eff2 3 8 _ _ _ _  rfl rfl  (by intro d h; cases h; exact ⟨rfl, rfl⟩) (by intro d h; cases h; exact ⟨rfl, rfl⟩) rfl rfl  rfl rfl rfl  (EC.of (by intro _ _ h; cases h) (.inl rfl) (WV.call fn15 rfl (toSc_ok n2 p2 k2 (ho2.ext X1212) (hr2.ext X1212) (he42 (by omega)).1 (he42 (by omega)).2))) (EC.of (by intro _ _ h; cases h) (.inl rfl) (WV.al ze31 rfl)) (fun v H' h => .inl (h.2)) (fun v H' h => .inl (h.choose_spec.2.1)) ?_ ?_ 
                            · -- 3 first
                              rintro _ H1243 ⟨⟨u1240, v1241, B1242, rfl, ho1245, ho1246⟩, hx1244⟩
                              have q1249 := Nat.le_trans q1202 hx1244.bd
                              have q1250 := Nat.le_trans q1203 hx1244.bd
                              have q1251 := Nat.le_trans q1204 hx1244.bd
                              have q1252 := Nat.le_trans q1205 hx1244.bd
                              have q1253 := Nat.le_trans q1206 hx1244.bd
                              have q1254 := Nat.le_trans q1207 hx1244.bd
                              have q1255 := Nat.le_trans q1208 hx1244.bd
                              have q1256 := Nat.le_trans q1209 hx1244.bd
                              have q1257 := Nat.le_trans q1210 hx1244.bd
                              have q1258 := Nat.le_trans q1211 hx1244.bd
                              have X1259 := Ext.trans X1212 hx1244
                              have X1260 := Ext.trans X1213 hx1244
                              have X1261 := Ext.trans X1214 hx1244
                              have X1262 := Ext.trans X1215 hx1244
                              have X1263 := Ext.trans X1216 hx1244
                              have X1264 := Ext.trans X1225 hx1244
                              have ho1265 := ho1217.ext hx1244
                              have ho1266 := ho1218.ext hx1244
                              have hb1267 := hb1219.ext hx1244
                              have hb1268 := hb1220.ext hx1244
                              have hb1269 := hb1221.ext hx1244
                              have hb1270 := hb1222.ext hx1244
                              have hb1271 := hb1223.ext hx1244
                              have hb1272 := hb1224.ext hx1244
                              have X1273 := Ext.refl H1243
                              have hr1247 := ho1245.rd
                              have hr1248 := rd_ofO ho1246.rd
                              have y1274 := hb1267.lt
                              have y1275 := hb1268.lt
                              have y1276 := hb1269.lt
                              have y1277 := hb1270.lt
                              have y1278 := hb1271.lt
                              have y1279 := hb1272.lt
                              have o1280 := X1259.bd
                              have o1281 := X1260.bd
                              have o1282 := X1261.bd
                              have o1283 := X1262.bd
                              have o1284 := X1263.bd
                              have o1285 := X1264.bd
                              have o1286 := X1273.bd
                              have a1287 := ho1265.ltb
                              have a1288 := ho1266.ltb
                              refine Dr.eff2 4 8 _ _ _ _  rfl rfl  (by intro d h; cases h; exact ⟨rfl, rfl⟩) (by intro d h; cases h; exact ⟨rfl, rfl⟩) rfl rfl  rfl rfl rfl  (EC.of (by intro _ _ h; cases h) (.inl rfl) (WV.call fn16 rfl (implBS_ok n p k (hr1200.ext X1264) (hr1201.ext X1264) n2 p2 k2 hr1247 hr1248))) (EC.of (by intro _ _ h; cases h) (.inl rfl) (WV.al ze31 rfl)) (fun v H' h => .inl (h.2)) (fun v H' h => .inl (h.choose_spec.2.1)) ?_ ?_ 
                              · -- 4 first
                                have y1303 := hb1267.lt
                                have y1304 := hb1268.lt
                                have y1305 := hb1269.lt
                                have y1306 := hb1270.lt
                                have y1307 := hb1271.lt
                                have y1308 := hb1272.lt
                                have o1309 := X1259.bd
                                have o1310 := X1260.bd
                                have o1311 := X1261.bd
                                have o1312 := X1262.bd
                                have o1313 := X1263.bd
                                have o1314 := X1264.bd
                                have o1315 := X1273.bd
                                have a1316 := ho1265.ltb
                                have a1317 := ho1266.ltb
                                rintro _ H1321 ⟨⟨u1318, v1319, B1320, rfl, ho1323, ho1324⟩, hx1322⟩
                                have q1327 := Nat.le_trans q1249 hx1322.bd
                                have q1328 := Nat.le_trans q1250 hx1322.bd
                                have q1329 := Nat.le_trans q1251 hx1322.bd
                                have q1330 := Nat.le_trans q1252 hx1322.bd
                                have q1331 := Nat.le_trans q1253 hx1322.bd
                                have q1332 := Nat.le_trans q1254 hx1322.bd
                                have q1333 := Nat.le_trans q1255 hx1322.bd
                                have q1334 := Nat.le_trans q1256 hx1322.bd
                                have q1335 := Nat.le_trans q1257 hx1322.bd
                                have q1336 := Nat.le_trans q1258 hx1322.bd
                                have X1337 := Ext.trans X1259 hx1322
                                have X1338 := Ext.trans X1260 hx1322
                                have X1339 := Ext.trans X1261 hx1322
                                have X1340 := Ext.trans X1262 hx1322
                                have X1341 := Ext.trans X1263 hx1322
                                have X1342 := Ext.trans X1264 hx1322
                                have X1343 := Ext.trans X1273 hx1322
                                have ho1344 := ho1265.ext hx1322
                                have ho1345 := ho1266.ext hx1322
                                have hb1346 := hb1267.ext hx1322
                                have hb1347 := hb1268.ext hx1322
                                have hb1348 := hb1269.ext hx1322
                                have hb1349 := hb1270.ext hx1322
                                have hb1350 := hb1271.ext hx1322
                                have hb1351 := hb1272.ext hx1322
                                have X1352 := Ext.refl H1321
                                have hr1325 := ho1323.okk (ok' := fun b => (H1243.bd ≤ b ∧ b < B1320) ∧ b < H1321.bd) (fun b hb hlt => ⟨hb, hlt⟩)
                                have hr1326 := ho1324.okk (ok' := fun b => (H1243.bd ≤ b ∧ B1320 ≤ b) ∧ b < H1321.bd) (fun b hb hlt => ⟨hb, hlt⟩)
                                refine Dr.read 5 _ 94 _ rfl rfl rfl rfl rfl (RV.of (by intro _ _ h; cases h) (.inl rfl) (fun _ xd => HV.mv rfl)) ?_
                                refine Dr.read 6 _ 100 _ rfl rfl rfl rfl rfl (RV.of (by intro _ _ h; cases h) (.inl rfl) (fun _ xd => HV.ex rfl rfl)) ?_
                                refine Dr.read 7 _ 101 _ rfl rfl rfl rfl rfl (RV.of (by intro _ _ h; cases h) (.inl rfl) (fun _ xd => HV.ex rfl rfl)) ?_
                                refine Dr.eff 8 _ _ rfl (by intro d h; cases h; exact ⟨rfl, rfl⟩) rfl rfl rfl (EC.of (by intro _ _ h; cases h) (.inl rfl) (WV.al ze31 rfl)) (fun v H' h => .inl (h.choose_spec.2.1)) ?_
                                rintro _ H1356 ⟨b1355, rfl, hx1357, hn1358, hb1359⟩
                                have o1360 := Nat.le_trans X1337.bd hn1358
                                have o1361 := Nat.le_trans X1338.bd hn1358
                                have o1362 := Nat.le_trans X1339.bd hn1358
                                have o1363 := Nat.le_trans X1340.bd hn1358
                                have o1364 := Nat.le_trans X1341.bd hn1358
                                have o1365 := Nat.le_trans X1342.bd hn1358
                                have o1366 := Nat.le_trans X1343.bd hn1358
                                have o1367 := Nat.le_trans X1352.bd hn1358
                                have o1368 := Nat.le_trans q1327 hn1358
                                have o1369 := Nat.le_trans q1328 hn1358
                                have o1370 := Nat.le_trans q1329 hn1358
                                have o1371 := Nat.le_trans q1330 hn1358
                                have o1372 := Nat.le_trans q1331 hn1358
                                have o1373 := Nat.le_trans q1332 hn1358
                                have o1374 := Nat.le_trans q1333 hn1358
                                have o1375 := Nat.le_trans q1334 hn1358
                                have o1376 := Nat.le_trans q1335 hn1358
                                have o1377 := Nat.le_trans q1336 hn1358
                                have ne1378 : b5 ≠ b1355 := by have := hb1346.lt; omega
                                have ne1379 : b13 ≠ b1355 := by have := hb1347.lt; omega
                                have ne1380 : b10 ≠ b1355 := by have := hb1348.lt; omega
                                have ne1381 : b578 ≠ b1355 := by have := hb1349.lt; omega
                                have ne1382 : b661 ≠ b1355 := by have := hb1350.lt; omega
                                have ne1383 : b771 ≠ b1355 := by have := hb1351.lt; omega
                                have q1384 := Nat.le_trans q1327 hx1357.bd
                                have q1385 := Nat.le_trans q1328 hx1357.bd
                                have q1386 := Nat.le_trans q1329 hx1357.bd
                                have q1387 := Nat.le_trans q1330 hx1357.bd
                                have q1388 := Nat.le_trans q1331 hx1357.bd
                                have q1389 := Nat.le_trans q1332 hx1357.bd
                                have q1390 := Nat.le_trans q1333 hx1357.bd
                                have q1391 := Nat.le_trans q1334 hx1357.bd
                                have q1392 := Nat.le_trans q1335 hx1357.bd
                                have q1393 := Nat.le_trans q1336 hx1357.bd
                                have X1394 := Ext.trans X1337 hx1357
                                have X1395 := Ext.trans X1338 hx1357
                                have X1396 := Ext.trans X1339 hx1357
                                have X1397 := Ext.trans X1340 hx1357
                                have X1398 := Ext.trans X1341 hx1357
                                have X1399 := Ext.trans X1342 hx1357
                                have X1400 := Ext.trans X1343 hx1357
                                have X1401 := Ext.trans X1352 hx1357
                                have ho1402 := ho1344.ext hx1357
                                have ho1403 := ho1345.ext hx1357
                                have ho1404 := hr1325.ext hx1357
                                have ho1405 := hr1326.ext hx1357
                                have hb1406 := hb1346.ext hx1357
                                have hb1407 := hb1347.ext hx1357
                                have hb1408 := hb1348.ext hx1357
                                have hb1409 := hb1349.ext hx1357
                                have hb1410 := hb1350.ext hx1357
                                have hb1411 := hb1351.ext hx1357
                                have X1412 := Ext.refl H1356
                                refine Dr.eff 9 _ _ rfl (by intro d h; cases h) rfl rfl rfl (EC.of (by intro _ _ h; cases h) (.inl rfl) (WV.st rfl rfl va31 rfl hb1359 (Nat.le_of_ble_eq_true rfl) (one_cons rfl (one_cons (sl_one1 ho1404.rd.isSl) (one_cons rfl (one_cons rfl (one_cons (sl_one1 (rd_ofO ho1405.rd).isSl) one_nil))))))) ?_ ?_
                                · -- kept
                                  rintro _ H1413 ⟨hx1414, hb1415⟩
                                  have q1416 := Nat.le_trans q1384 hx1414.bd
                                  have q1417 := Nat.le_trans q1385 hx1414.bd
                                  have q1418 := Nat.le_trans q1386 hx1414.bd
                                  have q1419 := Nat.le_trans q1387 hx1414.bd
                                  have q1420 := Nat.le_trans q1388 hx1414.bd
                                  have q1421 := Nat.le_trans q1389 hx1414.bd
                                  have q1422 := Nat.le_trans q1390 hx1414.bd
                                  have q1423 := Nat.le_trans q1391 hx1414.bd
                                  have q1424 := Nat.le_trans q1392 hx1414.bd
                                  have q1425 := Nat.le_trans q1393 hx1414.bd
                                  have X1426 := Ext.thru X1394 hx1414 (fun z_ hz_ => by rw [hz_]; exact o1360)
                                  have X1427 := Ext.thru X1395 hx1414 (fun z_ hz_ => by rw [hz_]; exact o1361)
                                  have X1428 := Ext.thru X1396 hx1414 (fun z_ hz_ => by rw [hz_]; exact o1362)
                                  have X1429 := Ext.thru X1397 hx1414 (fun z_ hz_ => by rw [hz_]; exact o1363)
                                  have X1430 := Ext.thru X1398 hx1414 (fun z_ hz_ => by rw [hz_]; exact o1364)
                                  have X1431 := Ext.thru X1399 hx1414 (fun z_ hz_ => by rw [hz_]; exact o1365)
                                  have X1432 := Ext.thru X1400 hx1414 (fun z_ hz_ => by rw [hz_]; exact o1366)
                                  have X1433 := Ext.thru X1401 hx1414 (fun z_ hz_ => by rw [hz_]; exact o1367)
                                  have q1435 := Nat.le_trans X1412.bd hx1414.bd
                                  have ho1436 := ho1402.but hx1414 (fun b hb _ e => by have hb' : (H697.bd ≤ b ∧ b < B741) ∧ b < H742.bd := hb; have e' : b = b1355 := e; omega) (fun z_ hz_ => by rw [hz_]; exact hb1359.w)
                                  have ho1437 := ho1403.but hx1414 (fun b hb _ e => by have hb' : (H697.bd ≤ b ∧ B741 ≤ b) ∧ b < H742.bd := hb; have e' : b = b1355 := e; omega) (fun z_ hz_ => by rw [hz_]; exact hb1359.w)
                                  have ho1438 := ho1404.but hx1414 (fun b hb _ e => by have hb' : (H1243.bd ≤ b ∧ b < B1320) ∧ b < H1321.bd := hb; have e' : b = b1355 := e; omega) (fun z_ hz_ => by rw [hz_]; exact hb1359.w)
                                  have ho1439 := ho1405.but hx1414 (fun b hb _ e => by have hb' : (H1243.bd ≤ b ∧ B1320 ≤ b) ∧ b < H1321.bd := hb; have e' : b = b1355 := e; omega) (fun z_ hz_ => by rw [hz_]; exact hb1359.w)
                                  have hb1440 := hb1406.but hx1414 ne1378
                                  have hb1441 := hb1407.but hx1414 ne1379
                                  have hb1442 := hb1408.but hx1414 ne1380
                                  have hb1443 := hb1409.but hx1414 ne1381
                                  have hb1444 := hb1410.but hx1414 ne1382
                                  have hb1445 := hb1411.but hx1414 ne1383
                                  have hb1446 : At W H1413 b1355 ⟨31, [.int .i64 (zI (bsC n o p k l n2 o2 p2 k2 l2) n), u1318, .int .i64 (zI (bsC n o p k l n2 o2 p2 k2 l2) p), .int .i64 (zI (bsC n o p k l n2 o2 p2 k2 l2) (k + k2)), v1319], 5⟩ := hb1415
                                  refine .inr (.inr ?_)
                                  exact (kept_cons (.inr ⟨_, _, _, rfl, rfl, rfl, (RV.of (by intro _ _ h; cases h) (.inl rfl) (fun _ xd => HV.ex rfl rfl))⟩) (kept_cons (.inl rfl) (kept_cons (.inl rfl) (kept_cons (.inl rfl) (kept_cons (.inl rfl) kept_nil)))))
                                rintro _ H1413 ⟨hx1414, hb1415⟩
                                have q1447 := Nat.le_trans q1384 hx1414.bd
                                have q1448 := Nat.le_trans q1385 hx1414.bd
                                have q1449 := Nat.le_trans q1386 hx1414.bd
                                have q1450 := Nat.le_trans q1387 hx1414.bd
                                have q1451 := Nat.le_trans q1388 hx1414.bd
                                have q1452 := Nat.le_trans q1389 hx1414.bd
                                have q1453 := Nat.le_trans q1390 hx1414.bd
                                have q1454 := Nat.le_trans q1391 hx1414.bd
                                have q1455 := Nat.le_trans q1392 hx1414.bd
                                have q1456 := Nat.le_trans q1393 hx1414.bd
                                have X1457 := Ext.thru X1394 hx1414 (fun z_ hz_ => by rw [hz_]; exact o1360)
                                have X1458 := Ext.thru X1395 hx1414 (fun z_ hz_ => by rw [hz_]; exact o1361)
                                have X1459 := Ext.thru X1396 hx1414 (fun z_ hz_ => by rw [hz_]; exact o1362)
                                have X1460 := Ext.thru X1397 hx1414 (fun z_ hz_ => by rw [hz_]; exact o1363)
                                have X1461 := Ext.thru X1398 hx1414 (fun z_ hz_ => by rw [hz_]; exact o1364)
                                have X1462 := Ext.thru X1399 hx1414 (fun z_ hz_ => by rw [hz_]; exact o1365)
                                have X1463 := Ext.thru X1400 hx1414 (fun z_ hz_ => by rw [hz_]; exact o1366)
                                have X1464 := Ext.thru X1401 hx1414 (fun z_ hz_ => by rw [hz_]; exact o1367)
                                have q1466 := Nat.le_trans X1412.bd hx1414.bd
                                have ho1467 := ho1402.but hx1414 (fun b hb _ e => by have hb' : (H697.bd ≤ b ∧ b < B741) ∧ b < H742.bd := hb; have e' : b = b1355 := e; omega) (fun z_ hz_ => by rw [hz_]; exact hb1359.w)
                                have ho1468 := ho1403.but hx1414 (fun b hb _ e => by have hb' : (H697.bd ≤ b ∧ B741 ≤ b) ∧ b < H742.bd := hb; have e' : b = b1355 := e; omega) (fun z_ hz_ => by rw [hz_]; exact hb1359.w)
                                have ho1469 := ho1404.but hx1414 (fun b hb _ e => by have hb' : (H1243.bd ≤ b ∧ b < B1320) ∧ b < H1321.bd := hb; have e' : b = b1355 := e; omega) (fun z_ hz_ => by rw [hz_]; exact hb1359.w)
                                have ho1470 := ho1405.but hx1414 (fun b hb _ e => by have hb' : (H1243.bd ≤ b ∧ B1320 ≤ b) ∧ b < H1321.bd := hb; have e' : b = b1355 := e; omega) (fun z_ hz_ => by rw [hz_]; exact hb1359.w)
                                have hb1471 := hb1406.but hx1414 ne1378
                                have hb1472 := hb1407.but hx1414 ne1379
                                have hb1473 := hb1408.but hx1414 ne1380
                                have hb1474 := hb1409.but hx1414 ne1381
                                have hb1475 := hb1410.but hx1414 ne1382
                                have hb1476 := hb1411.but hx1414 ne1383
                                have hb1477 : At W H1413 b1355 ⟨31, [.int .i64 (zI (bsC n o p k l n2 o2 p2 k2 l2) n), u1318, .int .i64 (zI (bsC n o p k l n2 o2 p2 k2 l2) p), .int .i64 (zI (bsC n o p k l n2 o2 p2 k2 l2) (k + k2)), v1319], 5⟩ := hb1415
                                refine Dr.read 10 _ 16 _ rfl rfl rfl rfl rfl (RV.of (by intro _ _ h; cases h) (.inl rfl) (fun _ xd => HV.as rfl)) ?_
                                refine Dr.fin rfl ?_
                                refine nrm_and ?_
                                refine AW.seq ?_
                                refine AW.rs ?_
                                refine AL.val rfl (.inl rfl) (HV.lda (cs := [.int .i64 (zI (bsC n o p k l n2 o2 p2 k2 l2) n), u1318, .int .i64 (zI (bsC n o p k l n2 o2 p2 k2 l2) p), .int .i64 (zI (bsC n o p k l n2 o2 p2 k2 l2) (k + k2)), v1319]) rfl va31 (at_cells hb1477 rfl)) ?_
                                refine AL.val rfl (.inl rfl) (HV.lda (cs := [.int .i64 (zI (bsC n o p k l n2 o2 p2 k2 l2) n), u1, .int .i64 (zI (bsC n o p k l n2 o2 p2 k2 l2) p), .int .i64 (zI (bsC n o p k l n2 o2 p2 k2 l2) (k + k2)), u2]) rfl va31 (at_cells hb1473 rfl)) ?_
                                refine AL.w rfl (.inl rfl) (WV.call fn17 rfl (eqSc_ok (zI (bsC n o p k l n2 o2 p2 k2 l2) n) (zI (bsC n o p k l n2 o2 p2 k2 l2) p) (zI (bsC n o p k l n2 o2 p2 k2 l2) (k + k2)) (zI (bsC n o p k l n2 o2 p2 k2 l2) n) (zI (bsC n o p k l n2 o2 p2 k2 l2) p) (zI (bsC n o p k l n2 o2 p2 k2 l2) (k + k2)) ho1469.rd (rd_ofO ho1470.rd) (hru1.ext X1461) (hru2.ext X1461))) ?_
                                rintro _ H1478 ⟨rfl, hx1479⟩
                                have q1480 := Nat.le_trans q1447 hx1479.bd
                                have q1481 := Nat.le_trans q1448 hx1479.bd
                                have q1482 := Nat.le_trans q1449 hx1479.bd
                                have q1483 := Nat.le_trans q1450 hx1479.bd
                                have q1484 := Nat.le_trans q1451 hx1479.bd
                                have q1485 := Nat.le_trans q1452 hx1479.bd
                                have q1486 := Nat.le_trans q1453 hx1479.bd
                                have q1487 := Nat.le_trans q1454 hx1479.bd
                                have q1488 := Nat.le_trans q1455 hx1479.bd
                                have q1489 := Nat.le_trans q1456 hx1479.bd
                                have q1490 := Nat.le_trans q1466 hx1479.bd
                                have X1491 := Ext.trans X1457 hx1479
                                have X1492 := Ext.trans X1458 hx1479
                                have X1493 := Ext.trans X1459 hx1479
                                have X1494 := Ext.trans X1460 hx1479
                                have X1495 := Ext.trans X1461 hx1479
                                have X1496 := Ext.trans X1462 hx1479
                                have X1497 := Ext.trans X1463 hx1479
                                have X1498 := Ext.trans X1464 hx1479
                                have ho1499 := ho1467.ext hx1479
                                have ho1500 := ho1468.ext hx1479
                                have ho1501 := ho1469.ext hx1479
                                have ho1502 := ho1470.ext hx1479
                                have hb1503 := hb1471.ext hx1479
                                have hb1504 := hb1472.ext hx1479
                                have hb1505 := hb1473.ext hx1479
                                have hb1506 := hb1474.ext hx1479
                                have hb1507 := hb1475.ext hx1479
                                have hb1508 := hb1476.ext hx1479
                                have hb1509 := hb1477.ext hx1479
                                refine AL.val rfl (.inl rfl) (HV.not rfl) ?_
                                refine AL.val rfl (.inl rfl) (HV.mv rfl) ?_
                                by_cases c1510 : (zI (bsC n o p k l n2 o2 p2 k2 l2) n) = (zI (bsC n o p k l n2 o2 p2 k2 l2) n) ∧ (zL (bsC n o p k l n2 o2 p2 k2 l2) (o ++ o2)) = (zL (bsC n o p k l n2 o2 p2 k2 l2) (o ++ o2)) ∧ (zI (bsC n o p k l n2 o2 p2 k2 l2) p) = (zI (bsC n o p k l n2 o2 p2 k2 l2) p) ∧ (zI (bsC n o p k l n2 o2 p2 k2 l2) (k + k2)) = (zI (bsC n o p k l n2 o2 p2 k2 l2) (k + k2)) ∧ (zL (bsC n o p k l n2 o2 p2 k2 l2) (joL p k k2 l l2)) = (zL (bsC n o p k l n2 o2 p2 k2 l2) (joL p k k2 l l2))
                                · -- false
                                  have c1510_ : (!decide ((zI (bsC n o p k l n2 o2 p2 k2 l2) n) = (zI (bsC n o p k l n2 o2 p2 k2 l2) n) ∧ (zL (bsC n o p k l n2 o2 p2 k2 l2) (o ++ o2)) = (zL (bsC n o p k l n2 o2 p2 k2 l2) (o ++ o2)) ∧ (zI (bsC n o p k l n2 o2 p2 k2 l2) p) = (zI (bsC n o p k l n2 o2 p2 k2 l2) p) ∧ (zI (bsC n o p k l n2 o2 p2 k2 l2) (k + k2)) = (zI (bsC n o p k l n2 o2 p2 k2 l2) (k + k2)) ∧ (zL (bsC n o p k l n2 o2 p2 k2 l2) (joL p k k2 l l2)) = (zL (bsC n o p k l n2 o2 p2 k2 l2) (joL p k k2 l l2)))) = false := by rw [decide_eq_true c1510]; rfl
                                  rw [c1510_]
                                  refine AL.val rfl (.inr ⟨_, _, _, rfl, rfl, rfl⟩) (HV.mv rfl) ?_
                                  refine AL.val rfl (.inr ⟨_, _, _, rfl, rfl, rfl⟩) (HV.mv rfl) ?_
                                  refine AL.val rfl (.inr ⟨_, _, _, rfl, rfl, rfl⟩) (HV.nei rfl rfl) ?_
                                  refine AL.val rfl (.inl rfl) (HV.pickF rfl rfl) ?_
                                  refine AL.nx ?_
                                  refine AW.ifd rfl (fun c1511 => ?_) (fun c1511 => ?_)
                                  · -- then
                                    refine AW.rs ?_
                                    refine AL.val rfl (.inl rfl) (HV.as rfl) ?_
                                    refine AL.nx ?_
                                    refine AW.ret ?_
                                    refine ret_and ?_
                                    refine post_one rfl rfl ?_ (.inr rfl)
                                    exfalso; first | omega | (simp at c1511; done) | exact c1511 ⟨rfl, rfl, rfl, rfl, rfl⟩ | exact absurd c1511 (by simp)
                                  · -- else
                                    refine AW.skip ?_
                                    refine nrm_and ?_
                                    refine AW.rs ?_
                                    refine AL.val rfl (.inl rfl) (HV.as rfl) ?_
                                    refine AL.nx ?_
                                    refine AW.rs ?_
                                    refine AL.val rfl (.inl rfl) (HV.lda (cs := [.int .i64 (zI (bsC n o p k l n2 o2 p2 k2 l2) n), u739, .int .i64 (zI (bsC n o p k l n2 o2 p2 k2 l2) p), .int .i64 (zI (bsC n o p k l n2 o2 p2 k2 l2) (k + k2)), v740]) rfl va31 (at_cells hb1508 rfl)) ?_
                                    refine AL.val rfl (.inl rfl) (HV.mv rfl) ?_
                                    have hbz := bs_len (n := n) (o := o) (p := p) (k := k) (l := l) (n2 := n2) (o2 := o2) (p2 := p2) (k2 := k2) (l2 := l2)
                                    refine AL.w rfl (.inl rfl) (WV.call fn19 rfl (heldSc_ok (zI (bsC n o p k l n2 o2 p2 k2 l2) n) (zI (bsC n o p k l n2 o2 p2 k2 l2) p) (zI (bsC n o p k l n2 o2 p2 k2 l2) (k + k2)) ho1499.rd (rd_ofO ho1500.rd) 1 (by omega) hbz.1 e1122 e1123 hbz.2 e1124 e1125)) ?_
                                    rintro _ H1512 ⟨rfl, hx1513⟩
                                    have q1514 := Nat.le_trans q1480 hx1513.bd
                                    have q1515 := Nat.le_trans q1481 hx1513.bd
                                    have q1516 := Nat.le_trans q1482 hx1513.bd
                                    have q1517 := Nat.le_trans q1483 hx1513.bd
                                    have q1518 := Nat.le_trans q1484 hx1513.bd
                                    have q1519 := Nat.le_trans q1485 hx1513.bd
                                    have q1520 := Nat.le_trans q1486 hx1513.bd
                                    have q1521 := Nat.le_trans q1487 hx1513.bd
                                    have q1522 := Nat.le_trans q1488 hx1513.bd
                                    have q1523 := Nat.le_trans q1489 hx1513.bd
                                    have q1524 := Nat.le_trans q1490 hx1513.bd
                                    have X1525 := Ext.trans X1491 hx1513
                                    have X1526 := Ext.trans X1492 hx1513
                                    have X1527 := Ext.trans X1493 hx1513
                                    have X1528 := Ext.trans X1494 hx1513
                                    have X1529 := Ext.trans X1495 hx1513
                                    have X1530 := Ext.trans X1496 hx1513
                                    have X1531 := Ext.trans X1497 hx1513
                                    have X1532 := Ext.trans X1498 hx1513
                                    have ho1533 := ho1499.ext hx1513
                                    have ho1534 := ho1500.ext hx1513
                                    have ho1535 := ho1501.ext hx1513
                                    have ho1536 := ho1502.ext hx1513
                                    have hb1537 := hb1503.ext hx1513
                                    have hb1538 := hb1504.ext hx1513
                                    have hb1539 := hb1505.ext hx1513
                                    have hb1540 := hb1506.ext hx1513
                                    have hb1541 := hb1507.ext hx1513
                                    have hb1542 := hb1508.ext hx1513
                                    have hb1543 := hb1509.ext hx1513
                                    refine AL.val rfl (.inl rfl) (HV.as rfl) ?_
                                    refine AL.nx ?_
                                    refine AW.seq ?_
                                    refine AW.rs ?_
                                    refine AL.val rfl (.inl rfl) (HV.mv rfl) ?_
                                    refine AL.val rfl (.inl rfl) (HV.lti rfl rfl) ?_
                                    refine AL.nx ?_
                                    refine AW.ifd rfl (fun c1544 => ?_) (fun c1544 => ?_)
                                    · -- then
                                      refine AW.rs ?_
                                      refine AL.val rfl (.inl rfl) (HV.as rfl) ?_
                                      refine AL.nx ?_
                                      refine AW.ret ?_
                                      refine ret_and ?_
                                      refine post_one rfl rfl ?_ (.inr rfl)
                                      exfalso; first | omega | (simp at c1544; done) | exact c1544 ⟨rfl, rfl, rfl, rfl, rfl⟩ | exact absurd c1544 (by simp)
                                    · -- else
                                      refine AW.skip ?_
                                      refine nrm_and ?_
                                      refine AW.seq ?_
                                      refine AW.rs ?_
                                      refine AL.val rfl (.inl rfl) (HV.mv rfl) ?_
                                      refine AL.val rfl (.inl rfl) (HV.mv rfl) ?_
                                      refine AL.val rfl (.inl rfl) (HV.nei rfl rfl) ?_
                                      refine AL.nx ?_
                                      refine AW.ifd rfl (fun c1545 => ?_) (fun c1545 => ?_)
                                      · -- then
                                        refine AW.rs ?_
                                        refine AL.val rfl (.inl rfl) (HV.as rfl) ?_
                                        refine AL.nx ?_
                                        refine AW.ret ?_
                                        refine ret_and ?_
                                        refine post_one rfl rfl ?_ (.inr rfl)
                                        exfalso; first | omega | (simp at c1545; done) | exact c1545 ⟨rfl, rfl, rfl, rfl, rfl⟩ | exact absurd c1545 (by simp)
                                      · -- else
                                        refine AW.skip ?_
                                        refine nrm_and ?_
                                        refine AW.rs ?_
                                        refine AL.val rfl (.inl rfl) (HV.as rfl) ?_
                                        refine AL.nx ?_
                                        refine AW.ret ?_
                                        refine post_one rfl rfl ?_ (.inr rfl)
                                        exact ⟨rfl, X1525⟩
                                · -- true
                                  have c1510_ : (!decide ((zI (bsC n o p k l n2 o2 p2 k2 l2) n) = (zI (bsC n o p k l n2 o2 p2 k2 l2) n) ∧ (zL (bsC n o p k l n2 o2 p2 k2 l2) (o ++ o2)) = (zL (bsC n o p k l n2 o2 p2 k2 l2) (o ++ o2)) ∧ (zI (bsC n o p k l n2 o2 p2 k2 l2) p) = (zI (bsC n o p k l n2 o2 p2 k2 l2) p) ∧ (zI (bsC n o p k l n2 o2 p2 k2 l2) (k + k2)) = (zI (bsC n o p k l n2 o2 p2 k2 l2) (k + k2)) ∧ (zL (bsC n o p k l n2 o2 p2 k2 l2) (joL p k k2 l l2)) = (zL (bsC n o p k l n2 o2 p2 k2 l2) (joL p k k2 l l2)))) = true := by rw [decide_eq_false c1510]; rfl
                                  rw [c1510_]
                                  refine AL.off rfl rfl (by decide) rfl ?_
                                  refine AL.off rfl rfl (by decide) rfl ?_
                                  refine AL.off rfl rfl (by decide) rfl ?_
                                  refine AL.val rfl (.inl rfl) (HV.pickT rfl rfl) ?_
                                  refine AL.nx ?_
                                  refine AW.cond rfl (fun _ => ?_) (fun h => by cases h)
                                  refine AW.rs ?_
                                  refine AL.val rfl (.inl rfl) (HV.as rfl) ?_
                                  refine AL.nx ?_
                                  refine AW.ret ?_
                                  refine ret_and ?_
                                  refine post_one rfl rfl ?_ (.inr rfl)
                                  exfalso; first | omega | (simp at c1510; done) | exact c1510 ⟨rfl, rfl, rfl, rfl, rfl⟩ | exact absurd c1510 (by simp)
                              · -- 8 first
                                rintro _ H1548 ⟨b1547, rfl, hx1549, hn1550, hb1551⟩
                                have o1552 := Nat.le_trans X1259.bd hn1550
                                have o1553 := Nat.le_trans X1260.bd hn1550
                                have o1554 := Nat.le_trans X1261.bd hn1550
                                have o1555 := Nat.le_trans X1262.bd hn1550
                                have o1556 := Nat.le_trans X1263.bd hn1550
                                have o1557 := Nat.le_trans X1264.bd hn1550
                                have o1558 := Nat.le_trans X1273.bd hn1550
                                have o1559 := Nat.le_trans q1249 hn1550
                                have o1560 := Nat.le_trans q1250 hn1550
                                have o1561 := Nat.le_trans q1251 hn1550
                                have o1562 := Nat.le_trans q1252 hn1550
                                have o1563 := Nat.le_trans q1253 hn1550
                                have o1564 := Nat.le_trans q1254 hn1550
                                have o1565 := Nat.le_trans q1255 hn1550
                                have o1566 := Nat.le_trans q1256 hn1550
                                have o1567 := Nat.le_trans q1257 hn1550
                                have o1568 := Nat.le_trans q1258 hn1550
                                have ne1569 : b5 ≠ b1547 := by have := hb1267.lt; omega
                                have ne1570 : b13 ≠ b1547 := by have := hb1268.lt; omega
                                have ne1571 : b10 ≠ b1547 := by have := hb1269.lt; omega
                                have ne1572 : b578 ≠ b1547 := by have := hb1270.lt; omega
                                have ne1573 : b661 ≠ b1547 := by have := hb1271.lt; omega
                                have ne1574 : b771 ≠ b1547 := by have := hb1272.lt; omega
                                have q1575 := Nat.le_trans q1249 hx1549.bd
                                have q1576 := Nat.le_trans q1250 hx1549.bd
                                have q1577 := Nat.le_trans q1251 hx1549.bd
                                have q1578 := Nat.le_trans q1252 hx1549.bd
                                have q1579 := Nat.le_trans q1253 hx1549.bd
                                have q1580 := Nat.le_trans q1254 hx1549.bd
                                have q1581 := Nat.le_trans q1255 hx1549.bd
                                have q1582 := Nat.le_trans q1256 hx1549.bd
                                have q1583 := Nat.le_trans q1257 hx1549.bd
                                have q1584 := Nat.le_trans q1258 hx1549.bd
                                have X1585 := Ext.trans X1259 hx1549
                                have X1586 := Ext.trans X1260 hx1549
                                have X1587 := Ext.trans X1261 hx1549
                                have X1588 := Ext.trans X1262 hx1549
                                have X1589 := Ext.trans X1263 hx1549
                                have X1590 := Ext.trans X1264 hx1549
                                have X1591 := Ext.trans X1273 hx1549
                                have ho1592 := ho1265.ext hx1549
                                have ho1593 := ho1266.ext hx1549
                                have hb1594 := hb1267.ext hx1549
                                have hb1595 := hb1268.ext hx1549
                                have hb1596 := hb1269.ext hx1549
                                have hb1597 := hb1270.ext hx1549
                                have hb1598 := hb1271.ext hx1549
                                have hb1599 := hb1272.ext hx1549
                                have X1600 := Ext.refl H1548
                                have y1601 := hb1594.lt
                                have y1602 := hb1595.lt
                                have y1603 := hb1596.lt
                                have y1604 := hb1597.lt
                                have y1605 := hb1598.lt
                                have y1606 := hb1599.lt
                                have y1607 := hb1551.lt
                                have o1608 := X1585.bd
                                have o1609 := X1586.bd
                                have o1610 := X1587.bd
                                have o1611 := X1588.bd
                                have o1612 := X1589.bd
                                have o1613 := X1590.bd
                                have o1614 := X1591.bd
                                have o1615 := X1600.bd
                                have a1616 := ho1592.ltb
                                have a1617 := ho1593.ltb
                                refine Dr.eff 4 _ _ rfl (by intro d h; cases h; exact ⟨rfl, rfl⟩) rfl rfl rfl (EC.of (by intro _ _ h; cases h) (.inl rfl) (WV.call fn16 rfl (implBS_ok n p k (hr1200.ext X1590) (hr1201.ext X1590) n2 p2 k2 (hr1247.ext X1591) (hr1248.ext X1591)))) (fun v H' h => .inl (h.2)) ?_
                                rintro _ H1621 ⟨⟨u1618, v1619, B1620, rfl, ho1623, ho1624⟩, hx1622⟩
                                have q1627 := Nat.le_trans q1575 hx1622.bd
                                have q1628 := Nat.le_trans q1576 hx1622.bd
                                have q1629 := Nat.le_trans q1577 hx1622.bd
                                have q1630 := Nat.le_trans q1578 hx1622.bd
                                have q1631 := Nat.le_trans q1579 hx1622.bd
                                have q1632 := Nat.le_trans q1580 hx1622.bd
                                have q1633 := Nat.le_trans q1581 hx1622.bd
                                have q1634 := Nat.le_trans q1582 hx1622.bd
                                have q1635 := Nat.le_trans q1583 hx1622.bd
                                have q1636 := Nat.le_trans q1584 hx1622.bd
                                have X1637 := Ext.trans X1585 hx1622
                                have X1638 := Ext.trans X1586 hx1622
                                have X1639 := Ext.trans X1587 hx1622
                                have X1640 := Ext.trans X1588 hx1622
                                have X1641 := Ext.trans X1589 hx1622
                                have X1642 := Ext.trans X1590 hx1622
                                have X1643 := Ext.trans X1591 hx1622
                                have X1644 := Ext.trans X1600 hx1622
                                have ho1645 := ho1592.ext hx1622
                                have ho1646 := ho1593.ext hx1622
                                have hb1647 := hb1594.ext hx1622
                                have hb1648 := hb1595.ext hx1622
                                have hb1649 := hb1596.ext hx1622
                                have hb1650 := hb1597.ext hx1622
                                have hb1651 := hb1598.ext hx1622
                                have hb1652 := hb1599.ext hx1622
                                have hb1653 := hb1551.ext hx1622
                                have X1654 := Ext.refl H1621
                                have hr1625 := ho1623.okk (ok' := fun b => (H1548.bd ≤ b ∧ b < B1620) ∧ b < H1621.bd) (fun b hb hlt => ⟨hb, hlt⟩)
                                have hr1626 := ho1624.okk (ok' := fun b => (H1548.bd ≤ b ∧ B1620 ≤ b) ∧ b < H1621.bd) (fun b hb hlt => ⟨hb, hlt⟩)
                                refine Dr.read 5 _ 94 _ rfl rfl rfl rfl rfl (RV.of (by intro _ _ h; cases h) (.inl rfl) (fun _ xd => HV.mv rfl)) ?_
                                refine Dr.read 6 _ 100 _ rfl rfl rfl rfl rfl (RV.of (by intro _ _ h; cases h) (.inl rfl) (fun _ xd => HV.ex rfl rfl)) ?_
                                refine Dr.read 7 _ 101 _ rfl rfl rfl rfl rfl (RV.of (by intro _ _ h; cases h) (.inl rfl) (fun _ xd => HV.ex rfl rfl)) ?_
                                refine Dr.eff 9 _ _ rfl (by intro d h; cases h) rfl rfl rfl (EC.of (by intro _ _ h; cases h) (.inl rfl) (WV.st rfl rfl va31 rfl hb1653 (Nat.le_of_ble_eq_true rfl) (one_cons rfl (one_cons (sl_one1 hr1625.rd.isSl) (one_cons rfl (one_cons rfl (one_cons (sl_one1 (rd_ofO hr1626.rd).isSl) one_nil))))))) ?_ ?_
                                · -- kept
                                  rintro _ H1657 ⟨hx1658, hb1659⟩
                                  have q1660 := Nat.le_trans q1627 hx1658.bd
                                  have q1661 := Nat.le_trans q1628 hx1658.bd
                                  have q1662 := Nat.le_trans q1629 hx1658.bd
                                  have q1663 := Nat.le_trans q1630 hx1658.bd
                                  have q1664 := Nat.le_trans q1631 hx1658.bd
                                  have q1665 := Nat.le_trans q1632 hx1658.bd
                                  have q1666 := Nat.le_trans q1633 hx1658.bd
                                  have q1667 := Nat.le_trans q1634 hx1658.bd
                                  have q1668 := Nat.le_trans q1635 hx1658.bd
                                  have q1669 := Nat.le_trans q1636 hx1658.bd
                                  have X1670 := Ext.thru X1637 hx1658 (fun z_ hz_ => by rw [hz_]; exact o1552)
                                  have X1671 := Ext.thru X1638 hx1658 (fun z_ hz_ => by rw [hz_]; exact o1553)
                                  have X1672 := Ext.thru X1639 hx1658 (fun z_ hz_ => by rw [hz_]; exact o1554)
                                  have X1673 := Ext.thru X1640 hx1658 (fun z_ hz_ => by rw [hz_]; exact o1555)
                                  have X1674 := Ext.thru X1641 hx1658 (fun z_ hz_ => by rw [hz_]; exact o1556)
                                  have X1675 := Ext.thru X1642 hx1658 (fun z_ hz_ => by rw [hz_]; exact o1557)
                                  have X1676 := Ext.thru X1643 hx1658 (fun z_ hz_ => by rw [hz_]; exact o1558)
                                  have q1678 := Nat.le_trans X1644.bd hx1658.bd
                                  have q1680 := Nat.le_trans X1654.bd hx1658.bd
                                  have ho1681 := ho1645.but hx1658 (fun b hb _ e => by have hb' : (H697.bd ≤ b ∧ b < B741) ∧ b < H742.bd := hb; have e' : b = b1547 := e; omega) (fun z_ hz_ => by rw [hz_]; exact hb1653.w)
                                  have ho1682 := ho1646.but hx1658 (fun b hb _ e => by have hb' : (H697.bd ≤ b ∧ B741 ≤ b) ∧ b < H742.bd := hb; have e' : b = b1547 := e; omega) (fun z_ hz_ => by rw [hz_]; exact hb1653.w)
                                  have ho1683 := hr1625.but hx1658 (fun b hb _ e => by have hb' : (H1548.bd ≤ b ∧ b < B1620) ∧ b < H1621.bd := hb; have e' : b = b1547 := e; omega) (fun z_ hz_ => by rw [hz_]; exact hb1653.w)
                                  have ho1684 := hr1626.but hx1658 (fun b hb _ e => by have hb' : (H1548.bd ≤ b ∧ B1620 ≤ b) ∧ b < H1621.bd := hb; have e' : b = b1547 := e; omega) (fun z_ hz_ => by rw [hz_]; exact hb1653.w)
                                  have hb1685 := hb1647.but hx1658 ne1569
                                  have hb1686 := hb1648.but hx1658 ne1570
                                  have hb1687 := hb1649.but hx1658 ne1571
                                  have hb1688 := hb1650.but hx1658 ne1572
                                  have hb1689 := hb1651.but hx1658 ne1573
                                  have hb1690 := hb1652.but hx1658 ne1574
                                  have hb1691 : At W H1657 b1547 ⟨31, [.int .i64 (zI (bsC n o p k l n2 o2 p2 k2 l2) n), u1618, .int .i64 (zI (bsC n o p k l n2 o2 p2 k2 l2) p), .int .i64 (zI (bsC n o p k l n2 o2 p2 k2 l2) (k + k2)), v1619], 5⟩ := hb1659
                                  refine .inr (.inr ?_)
                                  exact (kept_cons (.inr ⟨_, _, _, rfl, rfl, rfl, (RV.of (by intro _ _ h; cases h) (.inl rfl) (fun _ xd => HV.ex rfl rfl))⟩) (kept_cons (.inl rfl) (kept_cons (.inl rfl) (kept_cons (.inl rfl) (kept_cons (.inl rfl) kept_nil)))))
                                rintro _ H1657 ⟨hx1658, hb1659⟩
                                have q1692 := Nat.le_trans q1627 hx1658.bd
                                have q1693 := Nat.le_trans q1628 hx1658.bd
                                have q1694 := Nat.le_trans q1629 hx1658.bd
                                have q1695 := Nat.le_trans q1630 hx1658.bd
                                have q1696 := Nat.le_trans q1631 hx1658.bd
                                have q1697 := Nat.le_trans q1632 hx1658.bd
                                have q1698 := Nat.le_trans q1633 hx1658.bd
                                have q1699 := Nat.le_trans q1634 hx1658.bd
                                have q1700 := Nat.le_trans q1635 hx1658.bd
                                have q1701 := Nat.le_trans q1636 hx1658.bd
                                have X1702 := Ext.thru X1637 hx1658 (fun z_ hz_ => by rw [hz_]; exact o1552)
                                have X1703 := Ext.thru X1638 hx1658 (fun z_ hz_ => by rw [hz_]; exact o1553)
                                have X1704 := Ext.thru X1639 hx1658 (fun z_ hz_ => by rw [hz_]; exact o1554)
                                have X1705 := Ext.thru X1640 hx1658 (fun z_ hz_ => by rw [hz_]; exact o1555)
                                have X1706 := Ext.thru X1641 hx1658 (fun z_ hz_ => by rw [hz_]; exact o1556)
                                have X1707 := Ext.thru X1642 hx1658 (fun z_ hz_ => by rw [hz_]; exact o1557)
                                have X1708 := Ext.thru X1643 hx1658 (fun z_ hz_ => by rw [hz_]; exact o1558)
                                have q1710 := Nat.le_trans X1644.bd hx1658.bd
                                have q1712 := Nat.le_trans X1654.bd hx1658.bd
                                have ho1713 := ho1645.but hx1658 (fun b hb _ e => by have hb' : (H697.bd ≤ b ∧ b < B741) ∧ b < H742.bd := hb; have e' : b = b1547 := e; omega) (fun z_ hz_ => by rw [hz_]; exact hb1653.w)
                                have ho1714 := ho1646.but hx1658 (fun b hb _ e => by have hb' : (H697.bd ≤ b ∧ B741 ≤ b) ∧ b < H742.bd := hb; have e' : b = b1547 := e; omega) (fun z_ hz_ => by rw [hz_]; exact hb1653.w)
                                have ho1715 := hr1625.but hx1658 (fun b hb _ e => by have hb' : (H1548.bd ≤ b ∧ b < B1620) ∧ b < H1621.bd := hb; have e' : b = b1547 := e; omega) (fun z_ hz_ => by rw [hz_]; exact hb1653.w)
                                have ho1716 := hr1626.but hx1658 (fun b hb _ e => by have hb' : (H1548.bd ≤ b ∧ B1620 ≤ b) ∧ b < H1621.bd := hb; have e' : b = b1547 := e; omega) (fun z_ hz_ => by rw [hz_]; exact hb1653.w)
                                have hb1717 := hb1647.but hx1658 ne1569
                                have hb1718 := hb1648.but hx1658 ne1570
                                have hb1719 := hb1649.but hx1658 ne1571
                                have hb1720 := hb1650.but hx1658 ne1572
                                have hb1721 := hb1651.but hx1658 ne1573
                                have hb1722 := hb1652.but hx1658 ne1574
                                have hb1723 : At W H1657 b1547 ⟨31, [.int .i64 (zI (bsC n o p k l n2 o2 p2 k2 l2) n), u1618, .int .i64 (zI (bsC n o p k l n2 o2 p2 k2 l2) p), .int .i64 (zI (bsC n o p k l n2 o2 p2 k2 l2) (k + k2)), v1619], 5⟩ := hb1659
                                refine Dr.read 10 _ 16 _ rfl rfl rfl rfl rfl (RV.of (by intro _ _ h; cases h) (.inl rfl) (fun _ xd => HV.as rfl)) ?_
                                refine Dr.fin rfl ?_
                                refine nrm_and ?_
                                refine AW.seq ?_
                                refine AW.rs ?_
                                refine AL.val rfl (.inl rfl) (HV.lda (cs := [.int .i64 (zI (bsC n o p k l n2 o2 p2 k2 l2) n), u1618, .int .i64 (zI (bsC n o p k l n2 o2 p2 k2 l2) p), .int .i64 (zI (bsC n o p k l n2 o2 p2 k2 l2) (k + k2)), v1619]) rfl va31 (at_cells hb1723 rfl)) ?_
                                refine AL.val rfl (.inl rfl) (HV.lda (cs := [.int .i64 (zI (bsC n o p k l n2 o2 p2 k2 l2) n), u1, .int .i64 (zI (bsC n o p k l n2 o2 p2 k2 l2) p), .int .i64 (zI (bsC n o p k l n2 o2 p2 k2 l2) (k + k2)), u2]) rfl va31 (at_cells hb1719 rfl)) ?_
                                refine AL.w rfl (.inl rfl) (WV.call fn17 rfl (eqSc_ok (zI (bsC n o p k l n2 o2 p2 k2 l2) n) (zI (bsC n o p k l n2 o2 p2 k2 l2) p) (zI (bsC n o p k l n2 o2 p2 k2 l2) (k + k2)) (zI (bsC n o p k l n2 o2 p2 k2 l2) n) (zI (bsC n o p k l n2 o2 p2 k2 l2) p) (zI (bsC n o p k l n2 o2 p2 k2 l2) (k + k2)) ho1715.rd (rd_ofO ho1716.rd) (hru1.ext X1706) (hru2.ext X1706))) ?_
                                rintro _ H1724 ⟨rfl, hx1725⟩
                                have q1726 := Nat.le_trans q1692 hx1725.bd
                                have q1727 := Nat.le_trans q1693 hx1725.bd
                                have q1728 := Nat.le_trans q1694 hx1725.bd
                                have q1729 := Nat.le_trans q1695 hx1725.bd
                                have q1730 := Nat.le_trans q1696 hx1725.bd
                                have q1731 := Nat.le_trans q1697 hx1725.bd
                                have q1732 := Nat.le_trans q1698 hx1725.bd
                                have q1733 := Nat.le_trans q1699 hx1725.bd
                                have q1734 := Nat.le_trans q1700 hx1725.bd
                                have q1735 := Nat.le_trans q1701 hx1725.bd
                                have q1736 := Nat.le_trans q1710 hx1725.bd
                                have q1737 := Nat.le_trans q1712 hx1725.bd
                                have X1738 := Ext.trans X1702 hx1725
                                have X1739 := Ext.trans X1703 hx1725
                                have X1740 := Ext.trans X1704 hx1725
                                have X1741 := Ext.trans X1705 hx1725
                                have X1742 := Ext.trans X1706 hx1725
                                have X1743 := Ext.trans X1707 hx1725
                                have X1744 := Ext.trans X1708 hx1725
                                have ho1745 := ho1713.ext hx1725
                                have ho1746 := ho1714.ext hx1725
                                have ho1747 := ho1715.ext hx1725
                                have ho1748 := ho1716.ext hx1725
                                have hb1749 := hb1717.ext hx1725
                                have hb1750 := hb1718.ext hx1725
                                have hb1751 := hb1719.ext hx1725
                                have hb1752 := hb1720.ext hx1725
                                have hb1753 := hb1721.ext hx1725
                                have hb1754 := hb1722.ext hx1725
                                have hb1755 := hb1723.ext hx1725
                                refine AL.val rfl (.inl rfl) (HV.not rfl) ?_
                                refine AL.val rfl (.inl rfl) (HV.mv rfl) ?_
                                by_cases c1756 : (zI (bsC n o p k l n2 o2 p2 k2 l2) n) = (zI (bsC n o p k l n2 o2 p2 k2 l2) n) ∧ (zL (bsC n o p k l n2 o2 p2 k2 l2) (o ++ o2)) = (zL (bsC n o p k l n2 o2 p2 k2 l2) (o ++ o2)) ∧ (zI (bsC n o p k l n2 o2 p2 k2 l2) p) = (zI (bsC n o p k l n2 o2 p2 k2 l2) p) ∧ (zI (bsC n o p k l n2 o2 p2 k2 l2) (k + k2)) = (zI (bsC n o p k l n2 o2 p2 k2 l2) (k + k2)) ∧ (zL (bsC n o p k l n2 o2 p2 k2 l2) (joL p k k2 l l2)) = (zL (bsC n o p k l n2 o2 p2 k2 l2) (joL p k k2 l l2))
                                · -- false
                                  have c1756_ : (!decide ((zI (bsC n o p k l n2 o2 p2 k2 l2) n) = (zI (bsC n o p k l n2 o2 p2 k2 l2) n) ∧ (zL (bsC n o p k l n2 o2 p2 k2 l2) (o ++ o2)) = (zL (bsC n o p k l n2 o2 p2 k2 l2) (o ++ o2)) ∧ (zI (bsC n o p k l n2 o2 p2 k2 l2) p) = (zI (bsC n o p k l n2 o2 p2 k2 l2) p) ∧ (zI (bsC n o p k l n2 o2 p2 k2 l2) (k + k2)) = (zI (bsC n o p k l n2 o2 p2 k2 l2) (k + k2)) ∧ (zL (bsC n o p k l n2 o2 p2 k2 l2) (joL p k k2 l l2)) = (zL (bsC n o p k l n2 o2 p2 k2 l2) (joL p k k2 l l2)))) = false := by rw [decide_eq_true c1756]; rfl
                                  rw [c1756_]
                                  refine AL.val rfl (.inr ⟨_, _, _, rfl, rfl, rfl⟩) (HV.mv rfl) ?_
                                  refine AL.val rfl (.inr ⟨_, _, _, rfl, rfl, rfl⟩) (HV.mv rfl) ?_
                                  refine AL.val rfl (.inr ⟨_, _, _, rfl, rfl, rfl⟩) (HV.nei rfl rfl) ?_
                                  refine AL.val rfl (.inl rfl) (HV.pickF rfl rfl) ?_
                                  refine AL.nx ?_
                                  refine AW.ifd rfl (fun c1757 => ?_) (fun c1757 => ?_)
                                  · -- then
                                    refine AW.rs ?_
                                    refine AL.val rfl (.inl rfl) (HV.as rfl) ?_
                                    refine AL.nx ?_
                                    refine AW.ret ?_
                                    refine ret_and ?_
                                    refine post_one rfl rfl ?_ (.inr rfl)
                                    exfalso; first | omega | (simp at c1757; done) | exact c1757 ⟨rfl, rfl, rfl, rfl, rfl⟩ | exact absurd c1757 (by simp)
                                  · -- else
                                    refine AW.skip ?_
                                    refine nrm_and ?_
                                    refine AW.rs ?_
                                    refine AL.val rfl (.inl rfl) (HV.as rfl) ?_
                                    refine AL.nx ?_
                                    refine AW.rs ?_
                                    refine AL.val rfl (.inl rfl) (HV.lda (cs := [.int .i64 (zI (bsC n o p k l n2 o2 p2 k2 l2) n), u739, .int .i64 (zI (bsC n o p k l n2 o2 p2 k2 l2) p), .int .i64 (zI (bsC n o p k l n2 o2 p2 k2 l2) (k + k2)), v740]) rfl va31 (at_cells hb1754 rfl)) ?_
                                    refine AL.val rfl (.inl rfl) (HV.mv rfl) ?_
                                    have hbz := bs_len (n := n) (o := o) (p := p) (k := k) (l := l) (n2 := n2) (o2 := o2) (p2 := p2) (k2 := k2) (l2 := l2)
                                    refine AL.w rfl (.inl rfl) (WV.call fn19 rfl (heldSc_ok (zI (bsC n o p k l n2 o2 p2 k2 l2) n) (zI (bsC n o p k l n2 o2 p2 k2 l2) p) (zI (bsC n o p k l n2 o2 p2 k2 l2) (k + k2)) ho1745.rd (rd_ofO ho1746.rd) 1 (by omega) hbz.1 e1122 e1123 hbz.2 e1124 e1125)) ?_
                                    rintro _ H1758 ⟨rfl, hx1759⟩
                                    have q1760 := Nat.le_trans q1726 hx1759.bd
                                    have q1761 := Nat.le_trans q1727 hx1759.bd
                                    have q1762 := Nat.le_trans q1728 hx1759.bd
                                    have q1763 := Nat.le_trans q1729 hx1759.bd
                                    have q1764 := Nat.le_trans q1730 hx1759.bd
                                    have q1765 := Nat.le_trans q1731 hx1759.bd
                                    have q1766 := Nat.le_trans q1732 hx1759.bd
                                    have q1767 := Nat.le_trans q1733 hx1759.bd
                                    have q1768 := Nat.le_trans q1734 hx1759.bd
                                    have q1769 := Nat.le_trans q1735 hx1759.bd
                                    have q1770 := Nat.le_trans q1736 hx1759.bd
                                    have q1771 := Nat.le_trans q1737 hx1759.bd
                                    have X1772 := Ext.trans X1738 hx1759
                                    have X1773 := Ext.trans X1739 hx1759
                                    have X1774 := Ext.trans X1740 hx1759
                                    have X1775 := Ext.trans X1741 hx1759
                                    have X1776 := Ext.trans X1742 hx1759
                                    have X1777 := Ext.trans X1743 hx1759
                                    have X1778 := Ext.trans X1744 hx1759
                                    have ho1779 := ho1745.ext hx1759
                                    have ho1780 := ho1746.ext hx1759
                                    have ho1781 := ho1747.ext hx1759
                                    have ho1782 := ho1748.ext hx1759
                                    have hb1783 := hb1749.ext hx1759
                                    have hb1784 := hb1750.ext hx1759
                                    have hb1785 := hb1751.ext hx1759
                                    have hb1786 := hb1752.ext hx1759
                                    have hb1787 := hb1753.ext hx1759
                                    have hb1788 := hb1754.ext hx1759
                                    have hb1789 := hb1755.ext hx1759
                                    refine AL.val rfl (.inl rfl) (HV.as rfl) ?_
                                    refine AL.nx ?_
                                    refine AW.seq ?_
                                    refine AW.rs ?_
                                    refine AL.val rfl (.inl rfl) (HV.mv rfl) ?_
                                    refine AL.val rfl (.inl rfl) (HV.lti rfl rfl) ?_
                                    refine AL.nx ?_
                                    refine AW.ifd rfl (fun c1790 => ?_) (fun c1790 => ?_)
                                    · -- then
                                      refine AW.rs ?_
                                      refine AL.val rfl (.inl rfl) (HV.as rfl) ?_
                                      refine AL.nx ?_
                                      refine AW.ret ?_
                                      refine ret_and ?_
                                      refine post_one rfl rfl ?_ (.inr rfl)
                                      exfalso; first | omega | (simp at c1790; done) | exact c1790 ⟨rfl, rfl, rfl, rfl, rfl⟩ | exact absurd c1790 (by simp)
                                    · -- else
                                      refine AW.skip ?_
                                      refine nrm_and ?_
                                      refine AW.seq ?_
                                      refine AW.rs ?_
                                      refine AL.val rfl (.inl rfl) (HV.mv rfl) ?_
                                      refine AL.val rfl (.inl rfl) (HV.mv rfl) ?_
                                      refine AL.val rfl (.inl rfl) (HV.nei rfl rfl) ?_
                                      refine AL.nx ?_
                                      refine AW.ifd rfl (fun c1791 => ?_) (fun c1791 => ?_)
                                      · -- then
                                        refine AW.rs ?_
                                        refine AL.val rfl (.inl rfl) (HV.as rfl) ?_
                                        refine AL.nx ?_
                                        refine AW.ret ?_
                                        refine ret_and ?_
                                        refine post_one rfl rfl ?_ (.inr rfl)
                                        exfalso; first | omega | (simp at c1791; done) | exact c1791 ⟨rfl, rfl, rfl, rfl, rfl⟩ | exact absurd c1791 (by simp)
                                      · -- else
                                        refine AW.skip ?_
                                        refine nrm_and ?_
                                        refine AW.rs ?_
                                        refine AL.val rfl (.inl rfl) (HV.as rfl) ?_
                                        refine AL.nx ?_
                                        refine AW.ret ?_
                                        refine post_one rfl rfl ?_ (.inr rfl)
                                        exact ⟨rfl, X1772⟩
                                · -- true
                                  have c1756_ : (!decide ((zI (bsC n o p k l n2 o2 p2 k2 l2) n) = (zI (bsC n o p k l n2 o2 p2 k2 l2) n) ∧ (zL (bsC n o p k l n2 o2 p2 k2 l2) (o ++ o2)) = (zL (bsC n o p k l n2 o2 p2 k2 l2) (o ++ o2)) ∧ (zI (bsC n o p k l n2 o2 p2 k2 l2) p) = (zI (bsC n o p k l n2 o2 p2 k2 l2) p) ∧ (zI (bsC n o p k l n2 o2 p2 k2 l2) (k + k2)) = (zI (bsC n o p k l n2 o2 p2 k2 l2) (k + k2)) ∧ (zL (bsC n o p k l n2 o2 p2 k2 l2) (joL p k k2 l l2)) = (zL (bsC n o p k l n2 o2 p2 k2 l2) (joL p k k2 l l2)))) = true := by rw [decide_eq_false c1756]; rfl
                                  rw [c1756_]
                                  refine AL.off rfl rfl (by decide) rfl ?_
                                  refine AL.off rfl rfl (by decide) rfl ?_
                                  refine AL.off rfl rfl (by decide) rfl ?_
                                  refine AL.val rfl (.inl rfl) (HV.pickT rfl rfl) ?_
                                  refine AL.nx ?_
                                  refine AW.cond rfl (fun _ => ?_) (fun h => by cases h)
                                  refine AW.rs ?_
                                  refine AL.val rfl (.inl rfl) (HV.as rfl) ?_
                                  refine AL.nx ?_
                                  refine AW.ret ?_
                                  refine ret_and ?_
                                  refine post_one rfl rfl ?_ (.inr rfl)
                                  exfalso; first | omega | (simp at c1756; done) | exact c1756 ⟨rfl, rfl, rfl, rfl, rfl⟩ | exact absurd c1756 (by simp)
                            · -- 8 first
                              rintro _ H1794 ⟨b1793, rfl, hx1795, hn1796, hb1797⟩
                              have o1798 := Nat.le_trans X1212.bd hn1796
                              have o1799 := Nat.le_trans X1213.bd hn1796
                              have o1800 := Nat.le_trans X1214.bd hn1796
                              have o1801 := Nat.le_trans X1215.bd hn1796
                              have o1802 := Nat.le_trans X1216.bd hn1796
                              have o1803 := Nat.le_trans X1225.bd hn1796
                              have o1804 := Nat.le_trans q1202 hn1796
                              have o1805 := Nat.le_trans q1203 hn1796
                              have o1806 := Nat.le_trans q1204 hn1796
                              have o1807 := Nat.le_trans q1205 hn1796
                              have o1808 := Nat.le_trans q1206 hn1796
                              have o1809 := Nat.le_trans q1207 hn1796
                              have o1810 := Nat.le_trans q1208 hn1796
                              have o1811 := Nat.le_trans q1209 hn1796
                              have o1812 := Nat.le_trans q1210 hn1796
                              have o1813 := Nat.le_trans q1211 hn1796
                              have ne1814 : b5 ≠ b1793 := by have := hb1219.lt; omega
                              have ne1815 : b13 ≠ b1793 := by have := hb1220.lt; omega
                              have ne1816 : b10 ≠ b1793 := by have := hb1221.lt; omega
                              have ne1817 : b578 ≠ b1793 := by have := hb1222.lt; omega
                              have ne1818 : b661 ≠ b1793 := by have := hb1223.lt; omega
                              have ne1819 : b771 ≠ b1793 := by have := hb1224.lt; omega
                              have q1820 := Nat.le_trans q1202 hx1795.bd
                              have q1821 := Nat.le_trans q1203 hx1795.bd
                              have q1822 := Nat.le_trans q1204 hx1795.bd
                              have q1823 := Nat.le_trans q1205 hx1795.bd
                              have q1824 := Nat.le_trans q1206 hx1795.bd
                              have q1825 := Nat.le_trans q1207 hx1795.bd
                              have q1826 := Nat.le_trans q1208 hx1795.bd
                              have q1827 := Nat.le_trans q1209 hx1795.bd
                              have q1828 := Nat.le_trans q1210 hx1795.bd
                              have q1829 := Nat.le_trans q1211 hx1795.bd
                              have X1830 := Ext.trans X1212 hx1795
                              have X1831 := Ext.trans X1213 hx1795
                              have X1832 := Ext.trans X1214 hx1795
                              have X1833 := Ext.trans X1215 hx1795
                              have X1834 := Ext.trans X1216 hx1795
                              have X1835 := Ext.trans X1225 hx1795
                              have ho1836 := ho1217.ext hx1795
                              have ho1837 := ho1218.ext hx1795
                              have hb1838 := hb1219.ext hx1795
                              have hb1839 := hb1220.ext hx1795
                              have hb1840 := hb1221.ext hx1795
                              have hb1841 := hb1222.ext hx1795
                              have hb1842 := hb1223.ext hx1795
                              have hb1843 := hb1224.ext hx1795
                              have X1844 := Ext.refl H1794
                              refine Dr.eff 3 _ _ rfl (by intro d h; cases h; exact ⟨rfl, rfl⟩) rfl rfl rfl (EC.of (by intro _ _ h; cases h) (.inl rfl) (WV.call fn15 rfl (toSc_ok n2 p2 k2 (ho2.ext X1830) (hr2.ext X1830) (he42 (by omega)).1 (he42 (by omega)).2))) (fun v H' h => .inl (h.2)) ?_
                              rintro _ H1848 ⟨⟨u1845, v1846, B1847, rfl, ho1850, ho1851⟩, hx1849⟩
                              have q1854 := Nat.le_trans q1820 hx1849.bd
                              have q1855 := Nat.le_trans q1821 hx1849.bd
                              have q1856 := Nat.le_trans q1822 hx1849.bd
                              have q1857 := Nat.le_trans q1823 hx1849.bd
                              have q1858 := Nat.le_trans q1824 hx1849.bd
                              have q1859 := Nat.le_trans q1825 hx1849.bd
                              have q1860 := Nat.le_trans q1826 hx1849.bd
                              have q1861 := Nat.le_trans q1827 hx1849.bd
                              have q1862 := Nat.le_trans q1828 hx1849.bd
                              have q1863 := Nat.le_trans q1829 hx1849.bd
                              have X1864 := Ext.trans X1830 hx1849
                              have X1865 := Ext.trans X1831 hx1849
                              have X1866 := Ext.trans X1832 hx1849
                              have X1867 := Ext.trans X1833 hx1849
                              have X1868 := Ext.trans X1834 hx1849
                              have X1869 := Ext.trans X1835 hx1849
                              have X1870 := Ext.trans X1844 hx1849
                              have ho1871 := ho1836.ext hx1849
                              have ho1872 := ho1837.ext hx1849
                              have hb1873 := hb1838.ext hx1849
                              have hb1874 := hb1839.ext hx1849
                              have hb1875 := hb1840.ext hx1849
                              have hb1876 := hb1841.ext hx1849
                              have hb1877 := hb1842.ext hx1849
                              have hb1878 := hb1843.ext hx1849
                              have hb1879 := hb1797.ext hx1849
                              have X1880 := Ext.refl H1848
                              have hr1852 := ho1850.rd
                              have hr1853 := rd_ofO ho1851.rd
                              have y1881 := hb1873.lt
                              have y1882 := hb1874.lt
                              have y1883 := hb1875.lt
                              have y1884 := hb1876.lt
                              have y1885 := hb1877.lt
                              have y1886 := hb1878.lt
                              have y1887 := hb1879.lt
                              have o1888 := X1864.bd
                              have o1889 := X1865.bd
                              have o1890 := X1866.bd
                              have o1891 := X1867.bd
                              have o1892 := X1868.bd
                              have o1893 := X1869.bd
                              have o1894 := X1870.bd
                              have o1895 := X1880.bd
                              have a1896 := ho1871.ltb
                              have a1897 := ho1872.ltb
                              refine Dr.eff 4 _ _ rfl (by intro d h; cases h; exact ⟨rfl, rfl⟩) rfl rfl rfl (EC.of (by intro _ _ h; cases h) (.inl rfl) (WV.call fn16 rfl (implBS_ok n p k (hr1200.ext X1869) (hr1201.ext X1869) n2 p2 k2 hr1852 hr1853))) (fun v H' h => .inl (h.2)) ?_
                              rintro _ H1901 ⟨⟨u1898, v1899, B1900, rfl, ho1903, ho1904⟩, hx1902⟩
                              have q1907 := Nat.le_trans q1854 hx1902.bd
                              have q1908 := Nat.le_trans q1855 hx1902.bd
                              have q1909 := Nat.le_trans q1856 hx1902.bd
                              have q1910 := Nat.le_trans q1857 hx1902.bd
                              have q1911 := Nat.le_trans q1858 hx1902.bd
                              have q1912 := Nat.le_trans q1859 hx1902.bd
                              have q1913 := Nat.le_trans q1860 hx1902.bd
                              have q1914 := Nat.le_trans q1861 hx1902.bd
                              have q1915 := Nat.le_trans q1862 hx1902.bd
                              have q1916 := Nat.le_trans q1863 hx1902.bd
                              have X1917 := Ext.trans X1864 hx1902
                              have X1918 := Ext.trans X1865 hx1902
                              have X1919 := Ext.trans X1866 hx1902
                              have X1920 := Ext.trans X1867 hx1902
                              have X1921 := Ext.trans X1868 hx1902
                              have X1922 := Ext.trans X1869 hx1902
                              have X1923 := Ext.trans X1870 hx1902
                              have X1924 := Ext.trans X1880 hx1902
                              have ho1925 := ho1871.ext hx1902
                              have ho1926 := ho1872.ext hx1902
                              have hb1927 := hb1873.ext hx1902
                              have hb1928 := hb1874.ext hx1902
                              have hb1929 := hb1875.ext hx1902
                              have hb1930 := hb1876.ext hx1902
                              have hb1931 := hb1877.ext hx1902
                              have hb1932 := hb1878.ext hx1902
                              have hb1933 := hb1879.ext hx1902
                              have X1934 := Ext.refl H1901
                              have hr1905 := ho1903.okk (ok' := fun b => (H1848.bd ≤ b ∧ b < B1900) ∧ b < H1901.bd) (fun b hb hlt => ⟨hb, hlt⟩)
                              have hr1906 := ho1904.okk (ok' := fun b => (H1848.bd ≤ b ∧ B1900 ≤ b) ∧ b < H1901.bd) (fun b hb hlt => ⟨hb, hlt⟩)
                              refine Dr.read 5 _ 94 _ rfl rfl rfl rfl rfl (RV.of (by intro _ _ h; cases h) (.inl rfl) (fun _ xd => HV.mv rfl)) ?_
                              refine Dr.read 6 _ 100 _ rfl rfl rfl rfl rfl (RV.of (by intro _ _ h; cases h) (.inl rfl) (fun _ xd => HV.ex rfl rfl)) ?_
                              refine Dr.read 7 _ 101 _ rfl rfl rfl rfl rfl (RV.of (by intro _ _ h; cases h) (.inl rfl) (fun _ xd => HV.ex rfl rfl)) ?_
                              refine Dr.eff 9 _ _ rfl (by intro d h; cases h) rfl rfl rfl (EC.of (by intro _ _ h; cases h) (.inl rfl) (WV.st rfl rfl va31 rfl hb1933 (Nat.le_of_ble_eq_true rfl) (one_cons rfl (one_cons (sl_one1 hr1905.rd.isSl) (one_cons rfl (one_cons rfl (one_cons (sl_one1 (rd_ofO hr1906.rd).isSl) one_nil))))))) ?_ ?_
                              · -- kept
                                rintro _ H1937 ⟨hx1938, hb1939⟩
                                have q1940 := Nat.le_trans q1907 hx1938.bd
                                have q1941 := Nat.le_trans q1908 hx1938.bd
                                have q1942 := Nat.le_trans q1909 hx1938.bd
                                have q1943 := Nat.le_trans q1910 hx1938.bd
                                have q1944 := Nat.le_trans q1911 hx1938.bd
                                have q1945 := Nat.le_trans q1912 hx1938.bd
                                have q1946 := Nat.le_trans q1913 hx1938.bd
                                have q1947 := Nat.le_trans q1914 hx1938.bd
                                have q1948 := Nat.le_trans q1915 hx1938.bd
                                have q1949 := Nat.le_trans q1916 hx1938.bd
                                have X1950 := Ext.thru X1917 hx1938 (fun z_ hz_ => by rw [hz_]; exact o1798)
                                have X1951 := Ext.thru X1918 hx1938 (fun z_ hz_ => by rw [hz_]; exact o1799)
                                have X1952 := Ext.thru X1919 hx1938 (fun z_ hz_ => by rw [hz_]; exact o1800)
                                have X1953 := Ext.thru X1920 hx1938 (fun z_ hz_ => by rw [hz_]; exact o1801)
                                have X1954 := Ext.thru X1921 hx1938 (fun z_ hz_ => by rw [hz_]; exact o1802)
                                have X1955 := Ext.thru X1922 hx1938 (fun z_ hz_ => by rw [hz_]; exact o1803)
                                have q1957 := Nat.le_trans X1923.bd hx1938.bd
                                have q1959 := Nat.le_trans X1924.bd hx1938.bd
                                have q1961 := Nat.le_trans X1934.bd hx1938.bd
                                have ho1962 := ho1925.but hx1938 (fun b hb _ e => by have hb' : (H697.bd ≤ b ∧ b < B741) ∧ b < H742.bd := hb; have e' : b = b1793 := e; omega) (fun z_ hz_ => by rw [hz_]; exact hb1933.w)
                                have ho1963 := ho1926.but hx1938 (fun b hb _ e => by have hb' : (H697.bd ≤ b ∧ B741 ≤ b) ∧ b < H742.bd := hb; have e' : b = b1793 := e; omega) (fun z_ hz_ => by rw [hz_]; exact hb1933.w)
                                have ho1964 := hr1905.but hx1938 (fun b hb _ e => by have hb' : (H1848.bd ≤ b ∧ b < B1900) ∧ b < H1901.bd := hb; have e' : b = b1793 := e; omega) (fun z_ hz_ => by rw [hz_]; exact hb1933.w)
                                have ho1965 := hr1906.but hx1938 (fun b hb _ e => by have hb' : (H1848.bd ≤ b ∧ B1900 ≤ b) ∧ b < H1901.bd := hb; have e' : b = b1793 := e; omega) (fun z_ hz_ => by rw [hz_]; exact hb1933.w)
                                have hb1966 := hb1927.but hx1938 ne1814
                                have hb1967 := hb1928.but hx1938 ne1815
                                have hb1968 := hb1929.but hx1938 ne1816
                                have hb1969 := hb1930.but hx1938 ne1817
                                have hb1970 := hb1931.but hx1938 ne1818
                                have hb1971 := hb1932.but hx1938 ne1819
                                have hb1972 : At W H1937 b1793 ⟨31, [.int .i64 (zI (bsC n o p k l n2 o2 p2 k2 l2) n), u1898, .int .i64 (zI (bsC n o p k l n2 o2 p2 k2 l2) p), .int .i64 (zI (bsC n o p k l n2 o2 p2 k2 l2) (k + k2)), v1899], 5⟩ := hb1939
                                refine .inr (.inr ?_)
                                exact (kept_cons (.inr ⟨_, _, _, rfl, rfl, rfl, (RV.of (by intro _ _ h; cases h) (.inl rfl) (fun _ xd => HV.ex rfl rfl))⟩) (kept_cons (.inl rfl) (kept_cons (.inl rfl) (kept_cons (.inl rfl) (kept_cons (.inl rfl) kept_nil)))))
                              rintro _ H1937 ⟨hx1938, hb1939⟩
                              have q1973 := Nat.le_trans q1907 hx1938.bd
                              have q1974 := Nat.le_trans q1908 hx1938.bd
                              have q1975 := Nat.le_trans q1909 hx1938.bd
                              have q1976 := Nat.le_trans q1910 hx1938.bd
                              have q1977 := Nat.le_trans q1911 hx1938.bd
                              have q1978 := Nat.le_trans q1912 hx1938.bd
                              have q1979 := Nat.le_trans q1913 hx1938.bd
                              have q1980 := Nat.le_trans q1914 hx1938.bd
                              have q1981 := Nat.le_trans q1915 hx1938.bd
                              have q1982 := Nat.le_trans q1916 hx1938.bd
                              have X1983 := Ext.thru X1917 hx1938 (fun z_ hz_ => by rw [hz_]; exact o1798)
                              have X1984 := Ext.thru X1918 hx1938 (fun z_ hz_ => by rw [hz_]; exact o1799)
                              have X1985 := Ext.thru X1919 hx1938 (fun z_ hz_ => by rw [hz_]; exact o1800)
                              have X1986 := Ext.thru X1920 hx1938 (fun z_ hz_ => by rw [hz_]; exact o1801)
                              have X1987 := Ext.thru X1921 hx1938 (fun z_ hz_ => by rw [hz_]; exact o1802)
                              have X1988 := Ext.thru X1922 hx1938 (fun z_ hz_ => by rw [hz_]; exact o1803)
                              have q1990 := Nat.le_trans X1923.bd hx1938.bd
                              have q1992 := Nat.le_trans X1924.bd hx1938.bd
                              have q1994 := Nat.le_trans X1934.bd hx1938.bd
                              have ho1995 := ho1925.but hx1938 (fun b hb _ e => by have hb' : (H697.bd ≤ b ∧ b < B741) ∧ b < H742.bd := hb; have e' : b = b1793 := e; omega) (fun z_ hz_ => by rw [hz_]; exact hb1933.w)
                              have ho1996 := ho1926.but hx1938 (fun b hb _ e => by have hb' : (H697.bd ≤ b ∧ B741 ≤ b) ∧ b < H742.bd := hb; have e' : b = b1793 := e; omega) (fun z_ hz_ => by rw [hz_]; exact hb1933.w)
                              have ho1997 := hr1905.but hx1938 (fun b hb _ e => by have hb' : (H1848.bd ≤ b ∧ b < B1900) ∧ b < H1901.bd := hb; have e' : b = b1793 := e; omega) (fun z_ hz_ => by rw [hz_]; exact hb1933.w)
                              have ho1998 := hr1906.but hx1938 (fun b hb _ e => by have hb' : (H1848.bd ≤ b ∧ B1900 ≤ b) ∧ b < H1901.bd := hb; have e' : b = b1793 := e; omega) (fun z_ hz_ => by rw [hz_]; exact hb1933.w)
                              have hb1999 := hb1927.but hx1938 ne1814
                              have hb2000 := hb1928.but hx1938 ne1815
                              have hb2001 := hb1929.but hx1938 ne1816
                              have hb2002 := hb1930.but hx1938 ne1817
                              have hb2003 := hb1931.but hx1938 ne1818
                              have hb2004 := hb1932.but hx1938 ne1819
                              have hb2005 : At W H1937 b1793 ⟨31, [.int .i64 (zI (bsC n o p k l n2 o2 p2 k2 l2) n), u1898, .int .i64 (zI (bsC n o p k l n2 o2 p2 k2 l2) p), .int .i64 (zI (bsC n o p k l n2 o2 p2 k2 l2) (k + k2)), v1899], 5⟩ := hb1939
                              refine Dr.read 10 _ 16 _ rfl rfl rfl rfl rfl (RV.of (by intro _ _ h; cases h) (.inl rfl) (fun _ xd => HV.as rfl)) ?_
                              refine Dr.fin rfl ?_
                              refine nrm_and ?_
                              refine AW.seq ?_
                              refine AW.rs ?_
                              refine AL.val rfl (.inl rfl) (HV.lda (cs := [.int .i64 (zI (bsC n o p k l n2 o2 p2 k2 l2) n), u1898, .int .i64 (zI (bsC n o p k l n2 o2 p2 k2 l2) p), .int .i64 (zI (bsC n o p k l n2 o2 p2 k2 l2) (k + k2)), v1899]) rfl va31 (at_cells hb2005 rfl)) ?_
                              refine AL.val rfl (.inl rfl) (HV.lda (cs := [.int .i64 (zI (bsC n o p k l n2 o2 p2 k2 l2) n), u1, .int .i64 (zI (bsC n o p k l n2 o2 p2 k2 l2) p), .int .i64 (zI (bsC n o p k l n2 o2 p2 k2 l2) (k + k2)), u2]) rfl va31 (at_cells hb2001 rfl)) ?_
                              refine AL.w rfl (.inl rfl) (WV.call fn17 rfl (eqSc_ok (zI (bsC n o p k l n2 o2 p2 k2 l2) n) (zI (bsC n o p k l n2 o2 p2 k2 l2) p) (zI (bsC n o p k l n2 o2 p2 k2 l2) (k + k2)) (zI (bsC n o p k l n2 o2 p2 k2 l2) n) (zI (bsC n o p k l n2 o2 p2 k2 l2) p) (zI (bsC n o p k l n2 o2 p2 k2 l2) (k + k2)) ho1997.rd (rd_ofO ho1998.rd) (hru1.ext X1987) (hru2.ext X1987))) ?_
                              rintro _ H2006 ⟨rfl, hx2007⟩
                              have q2008 := Nat.le_trans q1973 hx2007.bd
                              have q2009 := Nat.le_trans q1974 hx2007.bd
                              have q2010 := Nat.le_trans q1975 hx2007.bd
                              have q2011 := Nat.le_trans q1976 hx2007.bd
                              have q2012 := Nat.le_trans q1977 hx2007.bd
                              have q2013 := Nat.le_trans q1978 hx2007.bd
                              have q2014 := Nat.le_trans q1979 hx2007.bd
                              have q2015 := Nat.le_trans q1980 hx2007.bd
                              have q2016 := Nat.le_trans q1981 hx2007.bd
                              have q2017 := Nat.le_trans q1982 hx2007.bd
                              have q2018 := Nat.le_trans q1990 hx2007.bd
                              have q2019 := Nat.le_trans q1992 hx2007.bd
                              have q2020 := Nat.le_trans q1994 hx2007.bd
                              have X2021 := Ext.trans X1983 hx2007
                              have X2022 := Ext.trans X1984 hx2007
                              have X2023 := Ext.trans X1985 hx2007
                              have X2024 := Ext.trans X1986 hx2007
                              have X2025 := Ext.trans X1987 hx2007
                              have X2026 := Ext.trans X1988 hx2007
                              have ho2027 := ho1995.ext hx2007
                              have ho2028 := ho1996.ext hx2007
                              have ho2029 := ho1997.ext hx2007
                              have ho2030 := ho1998.ext hx2007
                              have hb2031 := hb1999.ext hx2007
                              have hb2032 := hb2000.ext hx2007
                              have hb2033 := hb2001.ext hx2007
                              have hb2034 := hb2002.ext hx2007
                              have hb2035 := hb2003.ext hx2007
                              have hb2036 := hb2004.ext hx2007
                              have hb2037 := hb2005.ext hx2007
                              refine AL.val rfl (.inl rfl) (HV.not rfl) ?_
                              refine AL.val rfl (.inl rfl) (HV.mv rfl) ?_
                              by_cases c2038 : (zI (bsC n o p k l n2 o2 p2 k2 l2) n) = (zI (bsC n o p k l n2 o2 p2 k2 l2) n) ∧ (zL (bsC n o p k l n2 o2 p2 k2 l2) (o ++ o2)) = (zL (bsC n o p k l n2 o2 p2 k2 l2) (o ++ o2)) ∧ (zI (bsC n o p k l n2 o2 p2 k2 l2) p) = (zI (bsC n o p k l n2 o2 p2 k2 l2) p) ∧ (zI (bsC n o p k l n2 o2 p2 k2 l2) (k + k2)) = (zI (bsC n o p k l n2 o2 p2 k2 l2) (k + k2)) ∧ (zL (bsC n o p k l n2 o2 p2 k2 l2) (joL p k k2 l l2)) = (zL (bsC n o p k l n2 o2 p2 k2 l2) (joL p k k2 l l2))
                              · -- false
                                have c2038_ : (!decide ((zI (bsC n o p k l n2 o2 p2 k2 l2) n) = (zI (bsC n o p k l n2 o2 p2 k2 l2) n) ∧ (zL (bsC n o p k l n2 o2 p2 k2 l2) (o ++ o2)) = (zL (bsC n o p k l n2 o2 p2 k2 l2) (o ++ o2)) ∧ (zI (bsC n o p k l n2 o2 p2 k2 l2) p) = (zI (bsC n o p k l n2 o2 p2 k2 l2) p) ∧ (zI (bsC n o p k l n2 o2 p2 k2 l2) (k + k2)) = (zI (bsC n o p k l n2 o2 p2 k2 l2) (k + k2)) ∧ (zL (bsC n o p k l n2 o2 p2 k2 l2) (joL p k k2 l l2)) = (zL (bsC n o p k l n2 o2 p2 k2 l2) (joL p k k2 l l2)))) = false := by rw [decide_eq_true c2038]; rfl
                                rw [c2038_]
                                refine AL.val rfl (.inr ⟨_, _, _, rfl, rfl, rfl⟩) (HV.mv rfl) ?_
                                refine AL.val rfl (.inr ⟨_, _, _, rfl, rfl, rfl⟩) (HV.mv rfl) ?_
                                refine AL.val rfl (.inr ⟨_, _, _, rfl, rfl, rfl⟩) (HV.nei rfl rfl) ?_
                                refine AL.val rfl (.inl rfl) (HV.pickF rfl rfl) ?_
                                refine AL.nx ?_
                                refine AW.ifd rfl (fun c2039 => ?_) (fun c2039 => ?_)
                                · -- then
                                  refine AW.rs ?_
                                  refine AL.val rfl (.inl rfl) (HV.as rfl) ?_
                                  refine AL.nx ?_
                                  refine AW.ret ?_
                                  refine ret_and ?_
                                  refine post_one rfl rfl ?_ (.inr rfl)
                                  exfalso; first | omega | (simp at c2039; done) | exact c2039 ⟨rfl, rfl, rfl, rfl, rfl⟩ | exact absurd c2039 (by simp)
                                · -- else
                                  refine AW.skip ?_
                                  refine nrm_and ?_
                                  refine AW.rs ?_
                                  refine AL.val rfl (.inl rfl) (HV.as rfl) ?_
                                  refine AL.nx ?_
                                  refine AW.rs ?_
                                  refine AL.val rfl (.inl rfl) (HV.lda (cs := [.int .i64 (zI (bsC n o p k l n2 o2 p2 k2 l2) n), u739, .int .i64 (zI (bsC n o p k l n2 o2 p2 k2 l2) p), .int .i64 (zI (bsC n o p k l n2 o2 p2 k2 l2) (k + k2)), v740]) rfl va31 (at_cells hb2036 rfl)) ?_
                                  refine AL.val rfl (.inl rfl) (HV.mv rfl) ?_
                                  have hbz := bs_len (n := n) (o := o) (p := p) (k := k) (l := l) (n2 := n2) (o2 := o2) (p2 := p2) (k2 := k2) (l2 := l2)
                                  refine AL.w rfl (.inl rfl) (WV.call fn19 rfl (heldSc_ok (zI (bsC n o p k l n2 o2 p2 k2 l2) n) (zI (bsC n o p k l n2 o2 p2 k2 l2) p) (zI (bsC n o p k l n2 o2 p2 k2 l2) (k + k2)) ho2027.rd (rd_ofO ho2028.rd) 1 (by omega) hbz.1 e1122 e1123 hbz.2 e1124 e1125)) ?_
                                  rintro _ H2040 ⟨rfl, hx2041⟩
                                  have q2042 := Nat.le_trans q2008 hx2041.bd
                                  have q2043 := Nat.le_trans q2009 hx2041.bd
                                  have q2044 := Nat.le_trans q2010 hx2041.bd
                                  have q2045 := Nat.le_trans q2011 hx2041.bd
                                  have q2046 := Nat.le_trans q2012 hx2041.bd
                                  have q2047 := Nat.le_trans q2013 hx2041.bd
                                  have q2048 := Nat.le_trans q2014 hx2041.bd
                                  have q2049 := Nat.le_trans q2015 hx2041.bd
                                  have q2050 := Nat.le_trans q2016 hx2041.bd
                                  have q2051 := Nat.le_trans q2017 hx2041.bd
                                  have q2052 := Nat.le_trans q2018 hx2041.bd
                                  have q2053 := Nat.le_trans q2019 hx2041.bd
                                  have q2054 := Nat.le_trans q2020 hx2041.bd
                                  have X2055 := Ext.trans X2021 hx2041
                                  have X2056 := Ext.trans X2022 hx2041
                                  have X2057 := Ext.trans X2023 hx2041
                                  have X2058 := Ext.trans X2024 hx2041
                                  have X2059 := Ext.trans X2025 hx2041
                                  have X2060 := Ext.trans X2026 hx2041
                                  have ho2061 := ho2027.ext hx2041
                                  have ho2062 := ho2028.ext hx2041
                                  have ho2063 := ho2029.ext hx2041
                                  have ho2064 := ho2030.ext hx2041
                                  have hb2065 := hb2031.ext hx2041
                                  have hb2066 := hb2032.ext hx2041
                                  have hb2067 := hb2033.ext hx2041
                                  have hb2068 := hb2034.ext hx2041
                                  have hb2069 := hb2035.ext hx2041
                                  have hb2070 := hb2036.ext hx2041
                                  have hb2071 := hb2037.ext hx2041
                                  refine AL.val rfl (.inl rfl) (HV.as rfl) ?_
                                  refine AL.nx ?_
                                  refine AW.seq ?_
                                  refine AW.rs ?_
                                  refine AL.val rfl (.inl rfl) (HV.mv rfl) ?_
                                  refine AL.val rfl (.inl rfl) (HV.lti rfl rfl) ?_
                                  refine AL.nx ?_
                                  refine AW.ifd rfl (fun c2072 => ?_) (fun c2072 => ?_)
                                  · -- then
                                    refine AW.rs ?_
                                    refine AL.val rfl (.inl rfl) (HV.as rfl) ?_
                                    refine AL.nx ?_
                                    refine AW.ret ?_
                                    refine ret_and ?_
                                    refine post_one rfl rfl ?_ (.inr rfl)
                                    exfalso; first | omega | (simp at c2072; done) | exact c2072 ⟨rfl, rfl, rfl, rfl, rfl⟩ | exact absurd c2072 (by simp)
                                  · -- else
                                    refine AW.skip ?_
                                    refine nrm_and ?_
                                    refine AW.seq ?_
                                    refine AW.rs ?_
                                    refine AL.val rfl (.inl rfl) (HV.mv rfl) ?_
                                    refine AL.val rfl (.inl rfl) (HV.mv rfl) ?_
                                    refine AL.val rfl (.inl rfl) (HV.nei rfl rfl) ?_
                                    refine AL.nx ?_
                                    refine AW.ifd rfl (fun c2073 => ?_) (fun c2073 => ?_)
                                    · -- then
                                      refine AW.rs ?_
                                      refine AL.val rfl (.inl rfl) (HV.as rfl) ?_
                                      refine AL.nx ?_
                                      refine AW.ret ?_
                                      refine ret_and ?_
                                      refine post_one rfl rfl ?_ (.inr rfl)
                                      exfalso; first | omega | (simp at c2073; done) | exact c2073 ⟨rfl, rfl, rfl, rfl, rfl⟩ | exact absurd c2073 (by simp)
                                    · -- else
                                      refine AW.skip ?_
                                      refine nrm_and ?_
                                      refine AW.rs ?_
                                      refine AL.val rfl (.inl rfl) (HV.as rfl) ?_
                                      refine AL.nx ?_
                                      refine AW.ret ?_
                                      refine post_one rfl rfl ?_ (.inr rfl)
                                      exact ⟨rfl, X2055⟩
                              · -- true
                                have c2038_ : (!decide ((zI (bsC n o p k l n2 o2 p2 k2 l2) n) = (zI (bsC n o p k l n2 o2 p2 k2 l2) n) ∧ (zL (bsC n o p k l n2 o2 p2 k2 l2) (o ++ o2)) = (zL (bsC n o p k l n2 o2 p2 k2 l2) (o ++ o2)) ∧ (zI (bsC n o p k l n2 o2 p2 k2 l2) p) = (zI (bsC n o p k l n2 o2 p2 k2 l2) p) ∧ (zI (bsC n o p k l n2 o2 p2 k2 l2) (k + k2)) = (zI (bsC n o p k l n2 o2 p2 k2 l2) (k + k2)) ∧ (zL (bsC n o p k l n2 o2 p2 k2 l2) (joL p k k2 l l2)) = (zL (bsC n o p k l n2 o2 p2 k2 l2) (joL p k k2 l l2)))) = true := by rw [decide_eq_false c2038]; rfl
                                rw [c2038_]
                                refine AL.off rfl rfl (by decide) rfl ?_
                                refine AL.off rfl rfl (by decide) rfl ?_
                                refine AL.off rfl rfl (by decide) rfl ?_
                                refine AL.val rfl (.inl rfl) (HV.pickT rfl rfl) ?_
                                refine AL.nx ?_
                                refine AW.cond rfl (fun _ => ?_) (fun h => by cases h)
                                refine AW.rs ?_
                                refine AL.val rfl (.inl rfl) (HV.as rfl) ?_
                                refine AL.nx ?_
                                refine AW.ret ?_
                                refine ret_and ?_
                                refine post_one rfl rfl ?_ (.inr rfl)
                                exfalso; first | omega | (simp at c2038; done) | exact c2038 ⟨rfl, rfl, rfl, rfl, rfl⟩ | exact absurd c2038 (by simp)
                          · -- 8 first
                            rintro _ H2076 ⟨b2075, rfl, hx2077, hn2078, hb2079⟩
                            have o2080 := Nat.le_trans X1164.bd hn2078
                            have o2081 := Nat.le_trans X1165.bd hn2078
                            have o2082 := Nat.le_trans X1166.bd hn2078
                            have o2083 := Nat.le_trans X1167.bd hn2078
                            have o2084 := Nat.le_trans X1168.bd hn2078
                            have o2085 := Nat.le_trans q1154 hn2078
                            have o2086 := Nat.le_trans q1155 hn2078
                            have o2087 := Nat.le_trans q1156 hn2078
                            have o2088 := Nat.le_trans q1157 hn2078
                            have o2089 := Nat.le_trans q1158 hn2078
                            have o2090 := Nat.le_trans q1159 hn2078
                            have o2091 := Nat.le_trans q1160 hn2078
                            have o2092 := Nat.le_trans q1161 hn2078
                            have o2093 := Nat.le_trans q1162 hn2078
                            have o2094 := Nat.le_trans q1163 hn2078
                            have ne2095 : b5 ≠ b2075 := by have := hb1171.lt; omega
                            have ne2096 : b13 ≠ b2075 := by have := hb1172.lt; omega
                            have ne2097 : b10 ≠ b2075 := by have := hb1173.lt; omega
                            have ne2098 : b578 ≠ b2075 := by have := hb1174.lt; omega
                            have ne2099 : b661 ≠ b2075 := by have := hb1175.lt; omega
                            have ne2100 : b771 ≠ b2075 := by have := hb1176.lt; omega
                            have q2101 := Nat.le_trans q1154 hx2077.bd
                            have q2102 := Nat.le_trans q1155 hx2077.bd
                            have q2103 := Nat.le_trans q1156 hx2077.bd
                            have q2104 := Nat.le_trans q1157 hx2077.bd
                            have q2105 := Nat.le_trans q1158 hx2077.bd
                            have q2106 := Nat.le_trans q1159 hx2077.bd
                            have q2107 := Nat.le_trans q1160 hx2077.bd
                            have q2108 := Nat.le_trans q1161 hx2077.bd
                            have q2109 := Nat.le_trans q1162 hx2077.bd
                            have q2110 := Nat.le_trans q1163 hx2077.bd
                            have X2111 := Ext.trans X1164 hx2077
                            have X2112 := Ext.trans X1165 hx2077
                            have X2113 := Ext.trans X1166 hx2077
                            have X2114 := Ext.trans X1167 hx2077
                            have X2115 := Ext.trans X1168 hx2077
                            have ho2116 := ho1169.ext hx2077
                            have ho2117 := ho1170.ext hx2077
                            have hb2118 := hb1171.ext hx2077
                            have hb2119 := hb1172.ext hx2077
                            have hb2120 := hb1173.ext hx2077
                            have hb2121 := hb1174.ext hx2077
                            have hb2122 := hb1175.ext hx2077
                            have hb2123 := hb1176.ext hx2077
                            have X2124 := Ext.refl H2076
                            refine Dr.eff 1 _ _ rfl (by intro d h; cases h; exact ⟨rfl, rfl⟩) rfl rfl rfl (EC.of (by intro _ _ h; cases h) (.inl rfl) (WV.call fn15 rfl (toSc_ok n p k (ho.ext X2111) (hr.ext X2111) (he30 (by omega)).1 (he30 (by omega)).2))) (fun v H' h => .inl (h.2)) ?_
                            rintro _ H2128 ⟨⟨u2125, v2126, B2127, rfl, ho2130, ho2131⟩, hx2129⟩
                            have q2134 := Nat.le_trans q2101 hx2129.bd
                            have q2135 := Nat.le_trans q2102 hx2129.bd
                            have q2136 := Nat.le_trans q2103 hx2129.bd
                            have q2137 := Nat.le_trans q2104 hx2129.bd
                            have q2138 := Nat.le_trans q2105 hx2129.bd
                            have q2139 := Nat.le_trans q2106 hx2129.bd
                            have q2140 := Nat.le_trans q2107 hx2129.bd
                            have q2141 := Nat.le_trans q2108 hx2129.bd
                            have q2142 := Nat.le_trans q2109 hx2129.bd
                            have q2143 := Nat.le_trans q2110 hx2129.bd
                            have X2144 := Ext.trans X2111 hx2129
                            have X2145 := Ext.trans X2112 hx2129
                            have X2146 := Ext.trans X2113 hx2129
                            have X2147 := Ext.trans X2114 hx2129
                            have X2148 := Ext.trans X2115 hx2129
                            have X2149 := Ext.trans X2124 hx2129
                            have ho2150 := ho2116.ext hx2129
                            have ho2151 := ho2117.ext hx2129
                            have hb2152 := hb2118.ext hx2129
                            have hb2153 := hb2119.ext hx2129
                            have hb2154 := hb2120.ext hx2129
                            have hb2155 := hb2121.ext hx2129
                            have hb2156 := hb2122.ext hx2129
                            have hb2157 := hb2123.ext hx2129
                            have hb2158 := hb2079.ext hx2129
                            have X2159 := Ext.refl H2128
                            have hr2132 := ho2130.rd
                            have hr2133 := rd_ofO ho2131.rd
                            refine Dr.eff 3 _ _ rfl (by intro d h; cases h; exact ⟨rfl, rfl⟩) rfl rfl rfl (EC.of (by intro _ _ h; cases h) (.inl rfl) (WV.call fn15 rfl (toSc_ok n2 p2 k2 (ho2.ext X2144) (hr2.ext X2144) (he42 (by omega)).1 (he42 (by omega)).2))) (fun v H' h => .inl (h.2)) ?_
                            rintro _ H2163 ⟨⟨u2160, v2161, B2162, rfl, ho2165, ho2166⟩, hx2164⟩
                            have q2169 := Nat.le_trans q2134 hx2164.bd
                            have q2170 := Nat.le_trans q2135 hx2164.bd
                            have q2171 := Nat.le_trans q2136 hx2164.bd
                            have q2172 := Nat.le_trans q2137 hx2164.bd
                            have q2173 := Nat.le_trans q2138 hx2164.bd
                            have q2174 := Nat.le_trans q2139 hx2164.bd
                            have q2175 := Nat.le_trans q2140 hx2164.bd
                            have q2176 := Nat.le_trans q2141 hx2164.bd
                            have q2177 := Nat.le_trans q2142 hx2164.bd
                            have q2178 := Nat.le_trans q2143 hx2164.bd
                            have X2179 := Ext.trans X2144 hx2164
                            have X2180 := Ext.trans X2145 hx2164
                            have X2181 := Ext.trans X2146 hx2164
                            have X2182 := Ext.trans X2147 hx2164
                            have X2183 := Ext.trans X2148 hx2164
                            have X2184 := Ext.trans X2149 hx2164
                            have X2185 := Ext.trans X2159 hx2164
                            have ho2186 := ho2150.ext hx2164
                            have ho2187 := ho2151.ext hx2164
                            have hb2188 := hb2152.ext hx2164
                            have hb2189 := hb2153.ext hx2164
                            have hb2190 := hb2154.ext hx2164
                            have hb2191 := hb2155.ext hx2164
                            have hb2192 := hb2156.ext hx2164
                            have hb2193 := hb2157.ext hx2164
                            have hb2194 := hb2158.ext hx2164
                            have X2195 := Ext.refl H2163
                            have hr2167 := ho2165.rd
                            have hr2168 := rd_ofO ho2166.rd
                            have y2196 := hb2188.lt
                            have y2197 := hb2189.lt
                            have y2198 := hb2190.lt
                            have y2199 := hb2191.lt
                            have y2200 := hb2192.lt
                            have y2201 := hb2193.lt
                            have y2202 := hb2194.lt
                            have o2203 := X2179.bd
                            have o2204 := X2180.bd
                            have o2205 := X2181.bd
                            have o2206 := X2182.bd
                            have o2207 := X2183.bd
                            have o2208 := X2184.bd
                            have o2209 := X2185.bd
                            have o2210 := X2195.bd
                            have a2211 := ho2186.ltb
                            have a2212 := ho2187.ltb
                            refine Dr.eff 4 _ _ rfl (by intro d h; cases h; exact ⟨rfl, rfl⟩) rfl rfl rfl (EC.of (by intro _ _ h; cases h) (.inl rfl) (WV.call fn16 rfl (implBS_ok n p k (hr2132.ext X2185) (hr2133.ext X2185) n2 p2 k2 hr2167 hr2168))) (fun v H' h => .inl (h.2)) ?_
                            rintro _ H2216 ⟨⟨u2213, v2214, B2215, rfl, ho2218, ho2219⟩, hx2217⟩
                            have q2222 := Nat.le_trans q2169 hx2217.bd
                            have q2223 := Nat.le_trans q2170 hx2217.bd
                            have q2224 := Nat.le_trans q2171 hx2217.bd
                            have q2225 := Nat.le_trans q2172 hx2217.bd
                            have q2226 := Nat.le_trans q2173 hx2217.bd
                            have q2227 := Nat.le_trans q2174 hx2217.bd
                            have q2228 := Nat.le_trans q2175 hx2217.bd
                            have q2229 := Nat.le_trans q2176 hx2217.bd
                            have q2230 := Nat.le_trans q2177 hx2217.bd
                            have q2231 := Nat.le_trans q2178 hx2217.bd
                            have X2232 := Ext.trans X2179 hx2217
                            have X2233 := Ext.trans X2180 hx2217
                            have X2234 := Ext.trans X2181 hx2217
                            have X2235 := Ext.trans X2182 hx2217
                            have X2236 := Ext.trans X2183 hx2217
                            have X2237 := Ext.trans X2184 hx2217
                            have X2238 := Ext.trans X2185 hx2217
                            have X2239 := Ext.trans X2195 hx2217
                            have ho2240 := ho2186.ext hx2217
                            have ho2241 := ho2187.ext hx2217
                            have hb2242 := hb2188.ext hx2217
                            have hb2243 := hb2189.ext hx2217
                            have hb2244 := hb2190.ext hx2217
                            have hb2245 := hb2191.ext hx2217
                            have hb2246 := hb2192.ext hx2217
                            have hb2247 := hb2193.ext hx2217
                            have hb2248 := hb2194.ext hx2217
                            have X2249 := Ext.refl H2216
                            have hr2220 := ho2218.okk (ok' := fun b => (H2163.bd ≤ b ∧ b < B2215) ∧ b < H2216.bd) (fun b hb hlt => ⟨hb, hlt⟩)
                            have hr2221 := ho2219.okk (ok' := fun b => (H2163.bd ≤ b ∧ B2215 ≤ b) ∧ b < H2216.bd) (fun b hb hlt => ⟨hb, hlt⟩)
                            refine Dr.read 5 _ 94 _ rfl rfl rfl rfl rfl (RV.of (by intro _ _ h; cases h) (.inl rfl) (fun _ xd => HV.mv rfl)) ?_
                            refine Dr.read 6 _ 100 _ rfl rfl rfl rfl rfl (RV.of (by intro _ _ h; cases h) (.inl rfl) (fun _ xd => HV.ex rfl rfl)) ?_
                            refine Dr.read 7 _ 101 _ rfl rfl rfl rfl rfl (RV.of (by intro _ _ h; cases h) (.inl rfl) (fun _ xd => HV.ex rfl rfl)) ?_
                            refine Dr.eff 9 _ _ rfl (by intro d h; cases h) rfl rfl rfl (EC.of (by intro _ _ h; cases h) (.inl rfl) (WV.st rfl rfl va31 rfl hb2248 (Nat.le_of_ble_eq_true rfl) (one_cons rfl (one_cons (sl_one1 hr2220.rd.isSl) (one_cons rfl (one_cons rfl (one_cons (sl_one1 (rd_ofO hr2221.rd).isSl) one_nil))))))) ?_ ?_
                            · -- kept
                              rintro _ H2252 ⟨hx2253, hb2254⟩
                              have q2255 := Nat.le_trans q2222 hx2253.bd
                              have q2256 := Nat.le_trans q2223 hx2253.bd
                              have q2257 := Nat.le_trans q2224 hx2253.bd
                              have q2258 := Nat.le_trans q2225 hx2253.bd
                              have q2259 := Nat.le_trans q2226 hx2253.bd
                              have q2260 := Nat.le_trans q2227 hx2253.bd
                              have q2261 := Nat.le_trans q2228 hx2253.bd
                              have q2262 := Nat.le_trans q2229 hx2253.bd
                              have q2263 := Nat.le_trans q2230 hx2253.bd
                              have q2264 := Nat.le_trans q2231 hx2253.bd
                              have X2265 := Ext.thru X2232 hx2253 (fun z_ hz_ => by rw [hz_]; exact o2080)
                              have X2266 := Ext.thru X2233 hx2253 (fun z_ hz_ => by rw [hz_]; exact o2081)
                              have X2267 := Ext.thru X2234 hx2253 (fun z_ hz_ => by rw [hz_]; exact o2082)
                              have X2268 := Ext.thru X2235 hx2253 (fun z_ hz_ => by rw [hz_]; exact o2083)
                              have X2269 := Ext.thru X2236 hx2253 (fun z_ hz_ => by rw [hz_]; exact o2084)
                              have q2271 := Nat.le_trans X2237.bd hx2253.bd
                              have q2273 := Nat.le_trans X2238.bd hx2253.bd
                              have q2275 := Nat.le_trans X2239.bd hx2253.bd
                              have q2277 := Nat.le_trans X2249.bd hx2253.bd
                              have ho2278 := ho2240.but hx2253 (fun b hb _ e => by have hb' : (H697.bd ≤ b ∧ b < B741) ∧ b < H742.bd := hb; have e' : b = b2075 := e; omega) (fun z_ hz_ => by rw [hz_]; exact hb2248.w)
                              have ho2279 := ho2241.but hx2253 (fun b hb _ e => by have hb' : (H697.bd ≤ b ∧ B741 ≤ b) ∧ b < H742.bd := hb; have e' : b = b2075 := e; omega) (fun z_ hz_ => by rw [hz_]; exact hb2248.w)
                              have ho2280 := hr2220.but hx2253 (fun b hb _ e => by have hb' : (H2163.bd ≤ b ∧ b < B2215) ∧ b < H2216.bd := hb; have e' : b = b2075 := e; omega) (fun z_ hz_ => by rw [hz_]; exact hb2248.w)
                              have ho2281 := hr2221.but hx2253 (fun b hb _ e => by have hb' : (H2163.bd ≤ b ∧ B2215 ≤ b) ∧ b < H2216.bd := hb; have e' : b = b2075 := e; omega) (fun z_ hz_ => by rw [hz_]; exact hb2248.w)
                              have hb2282 := hb2242.but hx2253 ne2095
                              have hb2283 := hb2243.but hx2253 ne2096
                              have hb2284 := hb2244.but hx2253 ne2097
                              have hb2285 := hb2245.but hx2253 ne2098
                              have hb2286 := hb2246.but hx2253 ne2099
                              have hb2287 := hb2247.but hx2253 ne2100
                              have hb2288 : At W H2252 b2075 ⟨31, [.int .i64 (zI (bsC n o p k l n2 o2 p2 k2 l2) n), u2213, .int .i64 (zI (bsC n o p k l n2 o2 p2 k2 l2) p), .int .i64 (zI (bsC n o p k l n2 o2 p2 k2 l2) (k + k2)), v2214], 5⟩ := hb2254
                              refine .inr (.inr ?_)
                              exact (kept_cons (.inr ⟨_, _, _, rfl, rfl, rfl, (RV.of (by intro _ _ h; cases h) (.inl rfl) (fun _ xd => HV.ex rfl rfl))⟩) (kept_cons (.inl rfl) (kept_cons (.inl rfl) (kept_cons (.inl rfl) (kept_cons (.inl rfl) kept_nil)))))
                            rintro _ H2252 ⟨hx2253, hb2254⟩
                            have q2289 := Nat.le_trans q2222 hx2253.bd
                            have q2290 := Nat.le_trans q2223 hx2253.bd
                            have q2291 := Nat.le_trans q2224 hx2253.bd
                            have q2292 := Nat.le_trans q2225 hx2253.bd
                            have q2293 := Nat.le_trans q2226 hx2253.bd
                            have q2294 := Nat.le_trans q2227 hx2253.bd
                            have q2295 := Nat.le_trans q2228 hx2253.bd
                            have q2296 := Nat.le_trans q2229 hx2253.bd
                            have q2297 := Nat.le_trans q2230 hx2253.bd
                            have q2298 := Nat.le_trans q2231 hx2253.bd
                            have X2299 := Ext.thru X2232 hx2253 (fun z_ hz_ => by rw [hz_]; exact o2080)
                            have X2300 := Ext.thru X2233 hx2253 (fun z_ hz_ => by rw [hz_]; exact o2081)
                            have X2301 := Ext.thru X2234 hx2253 (fun z_ hz_ => by rw [hz_]; exact o2082)
                            have X2302 := Ext.thru X2235 hx2253 (fun z_ hz_ => by rw [hz_]; exact o2083)
                            have X2303 := Ext.thru X2236 hx2253 (fun z_ hz_ => by rw [hz_]; exact o2084)
                            have q2305 := Nat.le_trans X2237.bd hx2253.bd
                            have q2307 := Nat.le_trans X2238.bd hx2253.bd
                            have q2309 := Nat.le_trans X2239.bd hx2253.bd
                            have q2311 := Nat.le_trans X2249.bd hx2253.bd
                            have ho2312 := ho2240.but hx2253 (fun b hb _ e => by have hb' : (H697.bd ≤ b ∧ b < B741) ∧ b < H742.bd := hb; have e' : b = b2075 := e; omega) (fun z_ hz_ => by rw [hz_]; exact hb2248.w)
                            have ho2313 := ho2241.but hx2253 (fun b hb _ e => by have hb' : (H697.bd ≤ b ∧ B741 ≤ b) ∧ b < H742.bd := hb; have e' : b = b2075 := e; omega) (fun z_ hz_ => by rw [hz_]; exact hb2248.w)
                            have ho2314 := hr2220.but hx2253 (fun b hb _ e => by have hb' : (H2163.bd ≤ b ∧ b < B2215) ∧ b < H2216.bd := hb; have e' : b = b2075 := e; omega) (fun z_ hz_ => by rw [hz_]; exact hb2248.w)
                            have ho2315 := hr2221.but hx2253 (fun b hb _ e => by have hb' : (H2163.bd ≤ b ∧ B2215 ≤ b) ∧ b < H2216.bd := hb; have e' : b = b2075 := e; omega) (fun z_ hz_ => by rw [hz_]; exact hb2248.w)
                            have hb2316 := hb2242.but hx2253 ne2095
                            have hb2317 := hb2243.but hx2253 ne2096
                            have hb2318 := hb2244.but hx2253 ne2097
                            have hb2319 := hb2245.but hx2253 ne2098
                            have hb2320 := hb2246.but hx2253 ne2099
                            have hb2321 := hb2247.but hx2253 ne2100
                            have hb2322 : At W H2252 b2075 ⟨31, [.int .i64 (zI (bsC n o p k l n2 o2 p2 k2 l2) n), u2213, .int .i64 (zI (bsC n o p k l n2 o2 p2 k2 l2) p), .int .i64 (zI (bsC n o p k l n2 o2 p2 k2 l2) (k + k2)), v2214], 5⟩ := hb2254
                            refine Dr.read 10 _ 16 _ rfl rfl rfl rfl rfl (RV.of (by intro _ _ h; cases h) (.inl rfl) (fun _ xd => HV.as rfl)) ?_
                            refine Dr.fin rfl ?_
                            refine nrm_and ?_
                            refine AW.seq ?_
                            refine AW.rs ?_
                            refine AL.val rfl (.inl rfl) (HV.lda (cs := [.int .i64 (zI (bsC n o p k l n2 o2 p2 k2 l2) n), u2213, .int .i64 (zI (bsC n o p k l n2 o2 p2 k2 l2) p), .int .i64 (zI (bsC n o p k l n2 o2 p2 k2 l2) (k + k2)), v2214]) rfl va31 (at_cells hb2322 rfl)) ?_
                            refine AL.val rfl (.inl rfl) (HV.lda (cs := [.int .i64 (zI (bsC n o p k l n2 o2 p2 k2 l2) n), u1, .int .i64 (zI (bsC n o p k l n2 o2 p2 k2 l2) p), .int .i64 (zI (bsC n o p k l n2 o2 p2 k2 l2) (k + k2)), u2]) rfl va31 (at_cells hb2318 rfl)) ?_
                            refine AL.w rfl (.inl rfl) (WV.call fn17 rfl (eqSc_ok (zI (bsC n o p k l n2 o2 p2 k2 l2) n) (zI (bsC n o p k l n2 o2 p2 k2 l2) p) (zI (bsC n o p k l n2 o2 p2 k2 l2) (k + k2)) (zI (bsC n o p k l n2 o2 p2 k2 l2) n) (zI (bsC n o p k l n2 o2 p2 k2 l2) p) (zI (bsC n o p k l n2 o2 p2 k2 l2) (k + k2)) ho2314.rd (rd_ofO ho2315.rd) (hru1.ext X2303) (hru2.ext X2303))) ?_
                            rintro _ H2323 ⟨rfl, hx2324⟩
                            have q2325 := Nat.le_trans q2289 hx2324.bd
                            have q2326 := Nat.le_trans q2290 hx2324.bd
                            have q2327 := Nat.le_trans q2291 hx2324.bd
                            have q2328 := Nat.le_trans q2292 hx2324.bd
                            have q2329 := Nat.le_trans q2293 hx2324.bd
                            have q2330 := Nat.le_trans q2294 hx2324.bd
                            have q2331 := Nat.le_trans q2295 hx2324.bd
                            have q2332 := Nat.le_trans q2296 hx2324.bd
                            have q2333 := Nat.le_trans q2297 hx2324.bd
                            have q2334 := Nat.le_trans q2298 hx2324.bd
                            have q2335 := Nat.le_trans q2305 hx2324.bd
                            have q2336 := Nat.le_trans q2307 hx2324.bd
                            have q2337 := Nat.le_trans q2309 hx2324.bd
                            have q2338 := Nat.le_trans q2311 hx2324.bd
                            have X2339 := Ext.trans X2299 hx2324
                            have X2340 := Ext.trans X2300 hx2324
                            have X2341 := Ext.trans X2301 hx2324
                            have X2342 := Ext.trans X2302 hx2324
                            have X2343 := Ext.trans X2303 hx2324
                            have ho2344 := ho2312.ext hx2324
                            have ho2345 := ho2313.ext hx2324
                            have ho2346 := ho2314.ext hx2324
                            have ho2347 := ho2315.ext hx2324
                            have hb2348 := hb2316.ext hx2324
                            have hb2349 := hb2317.ext hx2324
                            have hb2350 := hb2318.ext hx2324
                            have hb2351 := hb2319.ext hx2324
                            have hb2352 := hb2320.ext hx2324
                            have hb2353 := hb2321.ext hx2324
                            have hb2354 := hb2322.ext hx2324
                            refine AL.val rfl (.inl rfl) (HV.not rfl) ?_
                            refine AL.val rfl (.inl rfl) (HV.mv rfl) ?_
                            by_cases c2355 : (zI (bsC n o p k l n2 o2 p2 k2 l2) n) = (zI (bsC n o p k l n2 o2 p2 k2 l2) n) ∧ (zL (bsC n o p k l n2 o2 p2 k2 l2) (o ++ o2)) = (zL (bsC n o p k l n2 o2 p2 k2 l2) (o ++ o2)) ∧ (zI (bsC n o p k l n2 o2 p2 k2 l2) p) = (zI (bsC n o p k l n2 o2 p2 k2 l2) p) ∧ (zI (bsC n o p k l n2 o2 p2 k2 l2) (k + k2)) = (zI (bsC n o p k l n2 o2 p2 k2 l2) (k + k2)) ∧ (zL (bsC n o p k l n2 o2 p2 k2 l2) (joL p k k2 l l2)) = (zL (bsC n o p k l n2 o2 p2 k2 l2) (joL p k k2 l l2))
                            · -- false
                              have c2355_ : (!decide ((zI (bsC n o p k l n2 o2 p2 k2 l2) n) = (zI (bsC n o p k l n2 o2 p2 k2 l2) n) ∧ (zL (bsC n o p k l n2 o2 p2 k2 l2) (o ++ o2)) = (zL (bsC n o p k l n2 o2 p2 k2 l2) (o ++ o2)) ∧ (zI (bsC n o p k l n2 o2 p2 k2 l2) p) = (zI (bsC n o p k l n2 o2 p2 k2 l2) p) ∧ (zI (bsC n o p k l n2 o2 p2 k2 l2) (k + k2)) = (zI (bsC n o p k l n2 o2 p2 k2 l2) (k + k2)) ∧ (zL (bsC n o p k l n2 o2 p2 k2 l2) (joL p k k2 l l2)) = (zL (bsC n o p k l n2 o2 p2 k2 l2) (joL p k k2 l l2)))) = false := by rw [decide_eq_true c2355]; rfl
                              rw [c2355_]
                              refine AL.val rfl (.inr ⟨_, _, _, rfl, rfl, rfl⟩) (HV.mv rfl) ?_
                              refine AL.val rfl (.inr ⟨_, _, _, rfl, rfl, rfl⟩) (HV.mv rfl) ?_
                              refine AL.val rfl (.inr ⟨_, _, _, rfl, rfl, rfl⟩) (HV.nei rfl rfl) ?_
                              refine AL.val rfl (.inl rfl) (HV.pickF rfl rfl) ?_
                              refine AL.nx ?_
                              refine AW.ifd rfl (fun c2356 => ?_) (fun c2356 => ?_)
                              · -- then
                                refine AW.rs ?_
                                refine AL.val rfl (.inl rfl) (HV.as rfl) ?_
                                refine AL.nx ?_
                                refine AW.ret ?_
                                refine ret_and ?_
                                refine post_one rfl rfl ?_ (.inr rfl)
                                exfalso; first | omega | (simp at c2356; done) | exact c2356 ⟨rfl, rfl, rfl, rfl, rfl⟩ | exact absurd c2356 (by simp)
                              · -- else
                                refine AW.skip ?_
                                refine nrm_and ?_
                                refine AW.rs ?_
                                refine AL.val rfl (.inl rfl) (HV.as rfl) ?_
                                refine AL.nx ?_
                                refine AW.rs ?_
                                refine AL.val rfl (.inl rfl) (HV.lda (cs := [.int .i64 (zI (bsC n o p k l n2 o2 p2 k2 l2) n), u739, .int .i64 (zI (bsC n o p k l n2 o2 p2 k2 l2) p), .int .i64 (zI (bsC n o p k l n2 o2 p2 k2 l2) (k + k2)), v740]) rfl va31 (at_cells hb2353 rfl)) ?_
                                refine AL.val rfl (.inl rfl) (HV.mv rfl) ?_
                                have hbz := bs_len (n := n) (o := o) (p := p) (k := k) (l := l) (n2 := n2) (o2 := o2) (p2 := p2) (k2 := k2) (l2 := l2)
                                refine AL.w rfl (.inl rfl) (WV.call fn19 rfl (heldSc_ok (zI (bsC n o p k l n2 o2 p2 k2 l2) n) (zI (bsC n o p k l n2 o2 p2 k2 l2) p) (zI (bsC n o p k l n2 o2 p2 k2 l2) (k + k2)) ho2344.rd (rd_ofO ho2345.rd) 1 (by omega) hbz.1 e1122 e1123 hbz.2 e1124 e1125)) ?_
                                rintro _ H2357 ⟨rfl, hx2358⟩
                                have q2359 := Nat.le_trans q2325 hx2358.bd
                                have q2360 := Nat.le_trans q2326 hx2358.bd
                                have q2361 := Nat.le_trans q2327 hx2358.bd
                                have q2362 := Nat.le_trans q2328 hx2358.bd
                                have q2363 := Nat.le_trans q2329 hx2358.bd
                                have q2364 := Nat.le_trans q2330 hx2358.bd
                                have q2365 := Nat.le_trans q2331 hx2358.bd
                                have q2366 := Nat.le_trans q2332 hx2358.bd
                                have q2367 := Nat.le_trans q2333 hx2358.bd
                                have q2368 := Nat.le_trans q2334 hx2358.bd
                                have q2369 := Nat.le_trans q2335 hx2358.bd
                                have q2370 := Nat.le_trans q2336 hx2358.bd
                                have q2371 := Nat.le_trans q2337 hx2358.bd
                                have q2372 := Nat.le_trans q2338 hx2358.bd
                                have X2373 := Ext.trans X2339 hx2358
                                have X2374 := Ext.trans X2340 hx2358
                                have X2375 := Ext.trans X2341 hx2358
                                have X2376 := Ext.trans X2342 hx2358
                                have X2377 := Ext.trans X2343 hx2358
                                have ho2378 := ho2344.ext hx2358
                                have ho2379 := ho2345.ext hx2358
                                have ho2380 := ho2346.ext hx2358
                                have ho2381 := ho2347.ext hx2358
                                have hb2382 := hb2348.ext hx2358
                                have hb2383 := hb2349.ext hx2358
                                have hb2384 := hb2350.ext hx2358
                                have hb2385 := hb2351.ext hx2358
                                have hb2386 := hb2352.ext hx2358
                                have hb2387 := hb2353.ext hx2358
                                have hb2388 := hb2354.ext hx2358
                                refine AL.val rfl (.inl rfl) (HV.as rfl) ?_
                                refine AL.nx ?_
                                refine AW.seq ?_
                                refine AW.rs ?_
                                refine AL.val rfl (.inl rfl) (HV.mv rfl) ?_
                                refine AL.val rfl (.inl rfl) (HV.lti rfl rfl) ?_
                                refine AL.nx ?_
                                refine AW.ifd rfl (fun c2389 => ?_) (fun c2389 => ?_)
                                · -- then
                                  refine AW.rs ?_
                                  refine AL.val rfl (.inl rfl) (HV.as rfl) ?_
                                  refine AL.nx ?_
                                  refine AW.ret ?_
                                  refine ret_and ?_
                                  refine post_one rfl rfl ?_ (.inr rfl)
                                  exfalso; first | omega | (simp at c2389; done) | exact c2389 ⟨rfl, rfl, rfl, rfl, rfl⟩ | exact absurd c2389 (by simp)
                                · -- else
                                  refine AW.skip ?_
                                  refine nrm_and ?_
                                  refine AW.seq ?_
                                  refine AW.rs ?_
                                  refine AL.val rfl (.inl rfl) (HV.mv rfl) ?_
                                  refine AL.val rfl (.inl rfl) (HV.mv rfl) ?_
                                  refine AL.val rfl (.inl rfl) (HV.nei rfl rfl) ?_
                                  refine AL.nx ?_
                                  refine AW.ifd rfl (fun c2390 => ?_) (fun c2390 => ?_)
                                  · -- then
                                    refine AW.rs ?_
                                    refine AL.val rfl (.inl rfl) (HV.as rfl) ?_
                                    refine AL.nx ?_
                                    refine AW.ret ?_
                                    refine ret_and ?_
                                    refine post_one rfl rfl ?_ (.inr rfl)
                                    exfalso; first | omega | (simp at c2390; done) | exact c2390 ⟨rfl, rfl, rfl, rfl, rfl⟩ | exact absurd c2390 (by simp)
                                  · -- else
                                    refine AW.skip ?_
                                    refine nrm_and ?_
                                    refine AW.rs ?_
                                    refine AL.val rfl (.inl rfl) (HV.as rfl) ?_
                                    refine AL.nx ?_
                                    refine AW.ret ?_
                                    refine post_one rfl rfl ?_ (.inr rfl)
                                    exact ⟨rfl, X2373⟩
                            · -- true
                              have c2355_ : (!decide ((zI (bsC n o p k l n2 o2 p2 k2 l2) n) = (zI (bsC n o p k l n2 o2 p2 k2 l2) n) ∧ (zL (bsC n o p k l n2 o2 p2 k2 l2) (o ++ o2)) = (zL (bsC n o p k l n2 o2 p2 k2 l2) (o ++ o2)) ∧ (zI (bsC n o p k l n2 o2 p2 k2 l2) p) = (zI (bsC n o p k l n2 o2 p2 k2 l2) p) ∧ (zI (bsC n o p k l n2 o2 p2 k2 l2) (k + k2)) = (zI (bsC n o p k l n2 o2 p2 k2 l2) (k + k2)) ∧ (zL (bsC n o p k l n2 o2 p2 k2 l2) (joL p k k2 l l2)) = (zL (bsC n o p k l n2 o2 p2 k2 l2) (joL p k k2 l l2)))) = true := by rw [decide_eq_false c2355]; rfl
                              rw [c2355_]
                              refine AL.off rfl rfl (by decide) rfl ?_
                              refine AL.off rfl rfl (by decide) rfl ?_
                              refine AL.off rfl rfl (by decide) rfl ?_
                              refine AL.val rfl (.inl rfl) (HV.pickT rfl rfl) ?_
                              refine AL.nx ?_
                              refine AW.cond rfl (fun _ => ?_) (fun h => by cases h)
                              refine AW.rs ?_
                              refine AL.val rfl (.inl rfl) (HV.as rfl) ?_
                              refine AL.nx ?_
                              refine AW.ret ?_
                              refine ret_and ?_
                              refine post_one rfl rfl ?_ (.inr rfl)
                              exfalso; first | omega | (simp at c2355; done) | exact c2355 ⟨rfl, rfl, rfl, rfl, rfl⟩ | exact absurd c2355 (by simp)
                  · -- true
                    have c1115_ : (!decide ((zI (bsC n o p k l n2 o2 p2 k2 l2) n) = (zI (bsC n o p k l n2 o2 p2 k2 l2) n) ∧ (zL (bsC n o p k l n2 o2 p2 k2 l2) (o ++ o2)) = (zL (bsC n o p k l n2 o2 p2 k2 l2) (o ++ o2)) ∧ (zI (bsC n o p k l n2 o2 p2 k2 l2) p) = (zI (bsC n o p k l n2 o2 p2 k2 l2) p) ∧ (zI (bsC n o p k l n2 o2 p2 k2 l2) (k + k2)) = (zI (bsC n o p k l n2 o2 p2 k2 l2) (k + k2)) ∧ (zL (bsC n o p k l n2 o2 p2 k2 l2) (joL p k k2 l l2)) = (zL (bsC n o p k l n2 o2 p2 k2 l2) (joL p k k2 l l2)))) = true := by rw [decide_eq_false c1115]; rfl
                    rw [c1115_]
                    refine AL.off rfl rfl (by decide) rfl ?_
                    refine AL.off rfl rfl (by decide) rfl ?_
                    refine AL.off rfl rfl (by decide) rfl ?_
                    refine AL.val rfl (.inl rfl) (HV.pickT rfl rfl) ?_
                    refine AL.nx ?_
                    refine AW.cond rfl (fun _ => ?_) (fun h => by cases h)
                    refine AW.rs ?_
                    refine AL.val rfl (.inl rfl) (HV.as rfl) ?_
                    refine AL.nx ?_
                    refine AW.ret ?_
                    refine ret_and ?_
                    refine post_one rfl rfl ?_ (.inr rfl)
                    exfalso; first | omega | (simp at c1115; done) | exact c1115 ⟨rfl, rfl, rfl, rfl, rfl⟩ | exact absurd c1115 (by simp)
        · -- true
          have c873_ : (!decide ((zI (bsC n o p k l n2 o2 p2 k2 l2) n) = (zI (bsC n o p k l n2 o2 p2 k2 l2) n) ∧ (zL (bsC n o p k l n2 o2 p2 k2 l2) (o ++ o2)) = (zL (bsC n o p k l n2 o2 p2 k2 l2) (o ++ o2)) ∧ (zI (bsC n o p k l n2 o2 p2 k2 l2) p) = (zI (bsC n o p k l n2 o2 p2 k2 l2) p) ∧ (zI (bsC n o p k l n2 o2 p2 k2 l2) (k + k2)) = (zI (bsC n o p k l n2 o2 p2 k2 l2) (k + k2)) ∧ (zL (bsC n o p k l n2 o2 p2 k2 l2) (joL p k k2 l l2)) = (zL (bsC n o p k l n2 o2 p2 k2 l2) (joL p k k2 l l2)))) = true := by rw [decide_eq_false c873]; rfl
          rw [c873_]
          refine AL.off rfl rfl (by decide) rfl ?_
          refine AL.off rfl rfl (by decide) rfl ?_
          refine AL.off rfl rfl (by decide) rfl ?_
          refine AL.val rfl (.inl rfl) (HV.pickT rfl rfl) ?_
          refine AL.nx ?_
          refine AW.cond rfl (fun _ => ?_) (fun h => by cases h)
          refine AW.rs ?_
          refine AL.val rfl (.inl rfl) (HV.as rfl) ?_
          refine AL.nx ?_
          refine AW.ret ?_
          refine ret_and ?_
          refine post_one rfl rfl ?_ (.inr rfl)
          exfalso; first | omega | (simp at c873; done) | exact c873 ⟨rfl, rfl, rfl, rfl, rfl⟩ | exact absurd c873 (by simp)
end Go.Proofs.Yticobjbjejpomaa.VC
