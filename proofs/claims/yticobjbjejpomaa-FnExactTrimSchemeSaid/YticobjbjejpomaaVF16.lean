/- Walks. -/
import Derived.Test.YticobjbjejpomaaVF15
set_option linter.unusedVariables false
set_option linter.unusedSimpArgs false
namespace Go.Proofs.Yticobjbjejpomaa.VC
open Go Go.RowKit
theorem tr_len {n : Int} {o : List Int} {p k : Int} {l : List (List Int)} : (zL (trC n o p k l) (tcO p o l)).length ≤ 1048576 ∧ (zL (trC n o p k l) (tcR p k o l)).length ≤ 1048576 ∧ ∀ x ∈ zL (trC n o p k l) (tcR p k o l), x.length ≤ 1048576 := by
  by_cases h : okSc n o p k l
  · rw [zL_yes (trC_0 h), zL_yes (trC_0 h)]
    have hF := okSc_f h
    have h1 := (kpS_in (p := p) (o := o) (l := l) o.length).1
    have h2 := hF.R
    have h3 := hF.ol
    have h4 : (tcO p o l).length = (kpS p o l o.length).length := by unfold tcO; simp
    have h5 : (tcR p k o l).length = (kpS p o l o.length).length := turn_len _ _
    have h6 : (tcM p k o l).length = k.toNat := turn_len _ _
    have h7 := kept_len p ((tcM p k o l).drop 1) ((tcM p k o l).drop 1).length
    have h8 := hF.k1
    refine ⟨by omega, by omega, fun x hx => ?_⟩
    unfold tcR turnL at hx
    obtain ⟨c, _, rfl⟩ := List.mem_map.1 hx
    rw [List.length_drop] at h7
    simp only [colT, List.length_map]
    unfold tcK
    rw [List.length_cons, List.length_drop]
    omega
  · have h0 : trC n o p k l ≠ 0 := by rw [trC_1 h]; decide
    rw [zL_no h0, zL_no h0]
    exact ⟨Nat.zero_le _, Nat.zero_le _, fun x hx => by cases hx⟩
variable {W : World} {H : Hp}

set_option maxRecDepth 100000 in
theorem markM_ok {v : Value} {l : List (List Int)} {ok2 : Nat → Prop} (p k : Int) (hd : OwnD (kO 2 kI) 22 W H ok2 v l) (hl : (l.length ≤ 1048576 ∧ ∀ x ∈ l, x.length ≤ 1048576)) (q : Int) (hq : 0 ≤ q ∧ q ≤ 4194304) : ACalls Try.prog W 67 #[.agg #[.int .i64 p, .int .i64 k, v], .int .i64 q] H (fun r H' => (∃ kl, r = .int .i64 (q + offs l l.length) ∧ sameLen kl l ∧ heldL q l kl l.length ∧ OwnD (kO 2 kI) 22 W H' ok2 v kl) ∧ But ok2 H H') := by
  refine ACalls.of (args := [.agg #[.int .i64 p, .int .i64 k, v], .int .i64 q]) Try.func67 rfl rfl ?_
  have X0 := Ext.refl H
  refine AW.rs ?_
  refine AL.w rfl (.inl rfl) (WV.bx rfl rfl) ?_
  rintro _ H2 ⟨b1, rfl, hx3, hn4, hb5⟩
  have o6 := Nat.le_trans X0.bd hn4
  have X7 := Ext.trans X0 hx3
  have ho8 := hd.ext hx3
  have X9 := Ext.refl H2
  refine AL.val rfl (.inl rfl) (HV.as rfl) ?_
  refine AL.nx ?_
  refine AW.rs ?_
  refine AL.val rfl (.inl rfl) (HV.fa fl29_2 rfl) ?_
  refine AL.val rfl (.inl rfl) (HV.ld rfl va23 (at_cell_add (j := 2) hb5 rfl)) ?_
  refine AL.val rfl (.inl rfl) (HV.mv rfl) ?_
  refine AL.w rfl (.inl rfl) (WV.call fn116 rfl (markSS2_ok ho8 hl q (by omega))) ?_
  rintro _ H10 ⟨⟨kl11, rfl, hk12, hh13, ho15⟩, hx14⟩
  refine AL.val rfl (.inl rfl) (HV.as rfl) ?_
  refine AL.nx ?_
  refine AW.rs ?_
  refine AL.val rfl (.inl rfl) (HV.mv rfl) ?_
  refine AL.val rfl (.inl rfl) (HV.as rfl) ?_
  refine AL.nx ?_
  refine AW.ret ?_
  refine post_one rfl rfl ?_ (.inr rfl)
  exact ⟨⟨kl11, rfl, hk12, hh13, ho15⟩, But.trans (Ext.but X7 _) hx14⟩

set_option maxRecDepth 100000 in
theorem markSc_ok {vo v : Value} {o : List Int} {l : List (List Int)} {ok1 ok2 : Nat → Prop} (n p k : Int) (ho : OwnK kI 2 W H ok1 vo o) (hd : OwnD (kO 2 kI) 22 W H ok2 v l) (hap : ∀ b, ok1 b → ok2 b → False) (hW2 : ∀ b, ok2 b → W.heap.size ≤ b) (hol : o.length ≤ 1048576) (hl : (l.length ≤ 1048576 ∧ ∀ x ∈ l, x.length ≤ 1048576)) (q : Int) (hq : 0 ≤ q ∧ q ≤ 1048576) : ACalls Try.prog W 18 #[.agg #[.int .i64 n, vo, .int .i64 p, .int .i64 k, v], .int .i64 q] H (fun r H' => (∃ ko kl, r = .int .i64 (q + (o.length : Int) + offs l l.length) ∧ ko.length = o.length ∧ (∀ j : Nat, j < ko.length → ko.getD j 0 = q + (j : Int)) ∧ sameLen kl l ∧ heldL (q + (o.length : Int)) l kl l.length ∧ OwnK kI 2 W H' ok1 vo ko ∧ OwnD (kO 2 kI) 22 W H' ok2 v kl) ∧ But (fun b => ok1 b ∨ ok2 b) H H') := by
  refine ACalls.of (args := [.agg #[.int .i64 n, vo, .int .i64 p, .int .i64 k, v], .int .i64 q]) Try.func18 rfl rfl ?_
  have X0 := Ext.refl H
  refine AW.rs ?_
  refine AL.w rfl (.inl rfl) (WV.bx rfl rfl) ?_
  rintro _ H2 ⟨b1, rfl, hx3, hn4, hb5⟩
  have o6 := Nat.le_trans X0.bd hn4
  have X7 := Ext.trans X0 hx3
  have ho8 := ho.ext hx3
  have ho9 := hd.ext hx3
  have X10 := Ext.refl H2
  refine AL.val rfl (.inl rfl) (HV.as rfl) ?_
  refine AL.nx ?_
  refine AW.rs ?_
  refine AL.val rfl (.inl rfl) (HV.fa fl31_1 rfl) ?_
  refine AL.val rfl (.inl rfl) (HV.ld rfl va22 (at_cell_add (j := 1) hb5 rfl)) ?_
  refine AL.val rfl (.inl rfl) (HV.mv rfl) ?_
  refine AL.w rfl (.inl rfl) (WV.call fn28 rfl (markS_ok q ho8 (by omega))) ?_
  rintro _ H8 ⟨ko, rfl, hko, hho, hx8, ho8⟩
  have hd8 := ho9.but hx8 (fun b hb _ e => hap b (ho8.blk b e).1 hb) (fun b e => (ho8.blk b e).2.2)
  have hb8 := hb5.but hx8 (fun e => by have a1 := ho.ltb _ e; have a2 := o6; omega)
  refine AL.val rfl (.inl rfl) (HV.as rfl) ?_
  refine AL.nx ?_
  refine AW.rs ?_
  refine AL.val rfl (.inl rfl) (HV.fa fl31_2 rfl) ?_
  refine AL.val rfl (.inl rfl) (HV.lda (cs := [.int .i64 p, .int .i64 k, v]) rfl va29 (at_cells hb8 rfl)) ?_
  refine AL.val rfl (.inl rfl) (HV.mv rfl) ?_
  refine AL.w rfl (.inl rfl) (WV.call fn67 rfl (markM_ok p k hd8 hl (q + (o.length : Int)) (by omega))) ?_
  rintro _ H9 ⟨⟨kl, rfl, hkl, hhl, hd9⟩, hx9⟩
  have ho9 := ho8.but hx9 (fun b h1 _ e => hap b h1 e) (fun b e => hW2 b e)
  refine AL.val rfl (.inl rfl) (HV.as rfl) ?_
  refine AL.nx ?_
  refine AW.rs ?_
  refine AL.val rfl (.inl rfl) (HV.mv rfl) ?_
  refine AL.val rfl (.inl rfl) (HV.as rfl) ?_
  refine AL.nx ?_
  refine AW.ret ?_
  refine post_one rfl rfl ?_ (.inr rfl)
  exact ⟨⟨ko, kl, rfl, hko, hho, hkl, hhl, ho9, hd9⟩, But.trans (Ext.but X7 _) (But.trans (But.mono hx8 (fun b e => .inl (ho8.blk b e).1)) (But.mono hx9 (fun b e => .inr e)))⟩

set_option maxRecDepth 100000 in
theorem heldM_ok {v : Value} {kl l : List (List Int)} {ok : Nat → Prop} (p k : Int) (hr : RdK (kR kI) W H ok v kl) (q : Int) (hq : 0 ≤ q ∧ q ≤ 4194304) (hl : (l.length ≤ 1048576 ∧ ∀ x ∈ l, x.length ≤ 1048576)) (hk : sameLen kl l) (hh : heldL q l kl l.length) : ACalls Try.prog W 68 #[.agg #[.int .i64 p, .int .i64 k, v], .int .i64 q] H (fun r H' => r = .int .i64 (q + offs l l.length) ∧ Ext H H') := by
  refine ACalls.of (args := [.agg #[.int .i64 p, .int .i64 k, v], .int .i64 q]) Try.func68 rfl rfl ?_
  have X0 := Ext.refl H
  have hm1 := hr.max
  have hof := offs_le (B := 1048576) hl.2 l.length (Nat.le_refl _)
  refine AW.rs ?_
  refine AL.w rfl (.inl rfl) (WV.bx rfl rfl) ?_
  rintro _ H3 ⟨b2, rfl, hx4, hn5, hb6⟩
  have o7 := Nat.le_trans X0.bd hn5
  have X8 := Ext.trans X0 hx4
  have X9 := Ext.refl H3
  refine AL.val rfl (.inl rfl) (HV.as rfl) ?_
  refine AL.nx ?_
  refine AW.rs ?_
  refine AL.val rfl (.inl rfl) (HV.fa fl29_2 rfl) ?_
  refine AL.val rfl (.inl rfl) (HV.ld rfl va23 (at_cell_add (j := 2) hb6 rfl)) ?_
  refine AL.val rfl (.inl rfl) (HV.mv rfl) ?_
  refine AL.w rfl (.inl rfl) (WV.call fn130 rfl (heldSS_ok q (hr.ext X8) hq hl hk hh)) ?_
  rintro _ H10 ⟨rfl, hx11⟩
  have X12 := Ext.trans X8 hx11
  have X13 := Ext.trans X9 hx11
  have hb14 := hb6.ext hx11
  refine AL.val rfl (.inl rfl) (HV.as rfl) ?_
  refine AL.nx ?_
  refine AW.seq ?_
  refine AW.rs ?_
  refine AL.val rfl (.inl rfl) (HV.mv rfl) ?_
  refine AL.val rfl (.inl rfl) (HV.lti rfl rfl) ?_
  refine AL.nx ?_
  refine AW.ifd rfl (fun c15 => ?_) (fun c15 => ?_)
  · -- then
    refine AW.rs ?_
    refine AL.val rfl (.inl rfl) (HV.as rfl) ?_
    refine AL.nx ?_
    refine AW.ret ?_
    refine ret_and ?_
    refine post_one rfl rfl ?_ (.inr rfl)
    exfalso; omega
  · -- else
    refine AW.skip ?_
    refine nrm_and ?_
    refine AW.rs ?_
    refine AL.val rfl (.inl rfl) (HV.mv rfl) ?_
    refine AL.val rfl (.inl rfl) (HV.as rfl) ?_
    refine AL.nx ?_
    refine AW.ret ?_
    refine post_one rfl rfl ?_ (.inr rfl)
    exact ⟨rfl, X12⟩

set_option maxRecDepth 100000 in
theorem heldSc_ok {vo v : Value} {ko o : List Int} {kl l : List (List Int)} {oko ok : Nat → Prop} (n p k : Int) (ho : RdK kI W H oko vo ko) (hr : RdK (kR kI) W H ok v kl) (q : Int) (hq : 0 ≤ q ∧ q ≤ 1048576) (hol : o.length ≤ 1048576) (hko : ko.length = o.length) (hho : ∀ j : Nat, j < ko.length → ko.getD j 0 = q + (j : Int)) (hl : (l.length ≤ 1048576 ∧ ∀ x ∈ l, x.length ≤ 1048576)) (hk : sameLen kl l) (hh : heldL (q + (o.length : Int)) l kl l.length) : ACalls Try.prog W 19 #[.agg #[.int .i64 n, vo, .int .i64 p, .int .i64 k, v], .int .i64 q] H (fun r H' => r = .int .i64 (q + (o.length : Int) + offs l l.length) ∧ Ext H H') := by
  refine ACalls.of (args := [.agg #[.int .i64 n, vo, .int .i64 p, .int .i64 k, v], .int .i64 q]) Try.func19 rfl rfl ?_
  have X0 := Ext.refl H
  have hm1 := ho.max
  have hm2 := hr.max
  have hof := offs_le (B := 1048576) hl.2 l.length (Nat.le_refl _)
  refine AW.rs ?_
  refine AL.w rfl (.inl rfl) (WV.bx rfl rfl) ?_
  rintro _ H4 ⟨b3, rfl, hx5, hn6, hb7⟩
  have o8 := Nat.le_trans X0.bd hn6
  have X9 := Ext.trans X0 hx5
  have X10 := Ext.refl H4
  refine AL.val rfl (.inl rfl) (HV.as rfl) ?_
  refine AL.nx ?_
  refine AW.rs ?_
  refine AL.val rfl (.inl rfl) (HV.fa fl31_1 rfl) ?_
  refine AL.val rfl (.inl rfl) (HV.ld rfl va22 (at_cell_add (j := 1) hb7 rfl)) ?_
  refine AL.val rfl (.inl rfl) (HV.mv rfl) ?_
  refine AL.w rfl (.inl rfl) (WV.call fn29 rfl ((hko ▸ heldS_ok q (ho.ext X9) (by omega) hho : ACalls Try.prog W 29 #[vo, .int .i64 q] _ (fun r H' => r = .int .i64 (q + (o.length : Int)) ∧ Ext _ H')))) ?_
  rintro _ H11 ⟨rfl, hx12⟩
  have X13 := Ext.trans X9 hx12
  have X14 := Ext.trans X10 hx12
  have hb15 := hb7.ext hx12
  refine AL.val rfl (.inl rfl) (HV.as rfl) ?_
  refine AL.nx ?_
  refine AW.seq ?_
  refine AW.rs ?_
  refine AL.val rfl (.inl rfl) (HV.mv rfl) ?_
  refine AL.val rfl (.inl rfl) (HV.lti rfl rfl) ?_
  refine AL.nx ?_
  refine AW.ifd rfl (fun c16 => ?_) (fun c16 => ?_)
  · -- then
    refine AW.rs ?_
    refine AL.val rfl (.inl rfl) (HV.as rfl) ?_
    refine AL.nx ?_
    refine AW.ret ?_
    refine ret_and ?_
    refine post_one rfl rfl ?_ (.inr rfl)
    exfalso; omega
  · -- else
    refine AW.skip ?_
    refine nrm_and ?_
    refine AW.rs ?_
    refine AL.val rfl (.inl rfl) (HV.fa fl31_2 rfl) ?_
    refine AL.val rfl (.inl rfl) (HV.lda (cs := [.int .i64 p, .int .i64 k, v]) rfl va29 (at_cells hb15 rfl)) ?_
    refine AL.val rfl (.inl rfl) (HV.mv rfl) ?_
    refine AL.w rfl (.inl rfl) (WV.call fn68 rfl (heldM_ok p k (hr.ext X13) (q + (o.length : Int)) (by omega) hl hk hh)) ?_
    rintro _ H17 ⟨rfl, hx18⟩
    have X19 := Ext.trans X13 hx18
    have X20 := Ext.trans X14 hx18
    have hb21 := hb15.ext hx18
    refine AL.val rfl (.inl rfl) (HV.as rfl) ?_
    refine AL.nx ?_
    refine AW.seq ?_
    refine AW.rs ?_
    refine AL.val rfl (.inl rfl) (HV.mv rfl) ?_
    refine AL.val rfl (.inl rfl) (HV.lti rfl rfl) ?_
    refine AL.nx ?_
    refine AW.ifd rfl (fun c22 => ?_) (fun c22 => ?_)
    · -- then
      refine AW.rs ?_
      refine AL.val rfl (.inl rfl) (HV.as rfl) ?_
      refine AL.nx ?_
      refine AW.ret ?_
      refine ret_and ?_
      refine post_one rfl rfl ?_ (.inr rfl)
      exfalso; omega
    · -- else
      refine AW.skip ?_
      refine nrm_and ?_
      refine AW.rs ?_
      refine AL.val rfl (.inl rfl) (HV.mv rfl) ?_
      refine AL.val rfl (.inl rfl) (HV.as rfl) ?_
      refine AL.nx ?_
      refine AW.ret ?_
      refine post_one rfl rfl ?_ (.inr rfl)
      exact ⟨rfl, X19⟩

set_option maxRecDepth 100000 in
set_option maxHeartbeats 4000000 in
theorem law_TrimScheme {vo v : Value} {o : List Int} {l : List (List Int)} {oko ok : Nat → Prop} (n p k : Int) (ho : RdK kI W H oko vo o) (hr : RdK (kR kI) W H ok v l) (hW : W.heap.size ≤ H.bd) : ACalls Try.prog W 9 #[.agg #[.int .i64 n, vo, .int .i64 p, .int .i64 k, v]] H (fun r H' => r = .bool true ∧ Ext H H') := by
  refine ACalls.of (args := [.agg #[.int .i64 n, vo, .int .i64 p, .int .i64 k, v]]) Try.func9 rfl rfl ?_
  have X0 := Ext.refl H
  have hm1 := ho.max
  have hm2 := hr.max
  refine AW.rs ?_
  refine AL.w rfl (.inl rfl) (WV.bx rfl rfl) ?_
  rintro _ H4 ⟨b3, rfl, hx5, hn6, hb7⟩
  have o8 := Nat.le_trans X0.bd hn6
  have X9 := Ext.trans X0 hx5
  have X10 := Ext.refl H4
  refine AL.val rfl (.inl rfl) (HV.as rfl) ?_
  refine AL.nx ?_
  refine AW.rs ?_
  refine AL.val rfl (.inl rfl) (HV.as rfl) ?_
  refine AL.nx ?_
  refine AW.rs ?_
  refine AL.val rfl (.inl rfl) (HV.lda (cs := [.int .i64 n, vo, .int .i64 p, .int .i64 k, v]) rfl va27 (at_cells hb7 rfl)) ?_
  refine AL.val rfl (.inl rfl) (HV.mv rfl) ?_
  refine AL.w rfl (.inl rfl) (WV.call fn13 rfl (szSc_ok n p k (ho.ext X9) (hr.ext X9) 1048576 (by omega))) ?_
  rintro _ H11 ⟨⟨q13, rfl, ha14, hb15, he16⟩, hx12⟩
  have X17 := Ext.trans X9 hx12
  have X18 := Ext.trans X10 hx12
  have hb19 := hb7.ext hx12
  refine AL.val rfl (.inl rfl) (HV.as rfl) ?_
  refine AL.nx ?_
  refine AW.seq ?_
  refine AW.rs ?_
  refine AL.val rfl (.inl rfl) (HV.mv rfl) ?_
  refine AL.val rfl (.inl rfl) (HV.lti rfl rfl) ?_
  refine AL.nx ?_
  refine AW.ifd rfl (fun c20 => ?_) (fun c20 => ?_)
  · -- then
    refine AW.rs ?_
    refine AL.val rfl (.inl rfl) (HV.as rfl) ?_
    refine AL.nx ?_
    refine AW.ret ?_
    refine ret_and ?_
    refine post_one rfl rfl ?_ (.inr rfl)
    exact ⟨rfl, X17⟩
  · -- else
    refine AW.skip ?_
    refine nrm_and ?_
    refine AW.rs ?_
    refine AL.val rfl (.inl rfl) (HV.lda (cs := [.int .i64 n, vo, .int .i64 p, .int .i64 k, v]) rfl va27 (at_cells hb19 rfl)) ?_
    refine AL.w rfl (.inl rfl) (WV.call fn15 rfl (toSc_ok n p k (ho.ext X17) (hr.ext X17) (he16 (by omega)).1 (he16 (by omega)).2)) ?_
    rintro _ H24 ⟨⟨u21, v22, B23, rfl, ho26, ho27⟩, hx25⟩
    have X30 := Ext.trans X17 hx25
    have X31 := Ext.trans X18 hx25
    have hb32 := hb19.ext hx25
    have X33 := Ext.refl H24
    have hr28 := ho26.rd
    have hr29 := rd_ofO ho27.rd
    have y34 := hb32.lt
    have o35 := X30.bd
    have o36 := X31.bd
    have o37 := X33.bd
    refine AL.w rfl (.inl rfl) (WV.call fn34 rfl (specTR_ok n p k hr28 hr29)) ?_
    rintro _ H41 ⟨⟨u38, v39, B40, rfl, ho43, ho44⟩, hx42⟩
    have X47 := Ext.trans X30 hx42
    have X48 := Ext.trans X31 hx42
    have X49 := Ext.trans X33 hx42
    have hb50 := hb32.ext hx42
    have X51 := Ext.refl H41
    have hr45 := ho43.okk (ok' := fun b => (H24.bd ≤ b ∧ b < B40) ∧ b < H41.bd) (fun b hb hlt => ⟨hb, hlt⟩)
    have hr46 := ho44.okk (ok' := fun b => (H24.bd ≤ b ∧ B40 ≤ b) ∧ b < H41.bd) (fun b hb hlt => ⟨hb, hlt⟩)
    refine AL.val rfl (.inl rfl) (HV.mv rfl) ?_
    refine AL.val rfl (.inl rfl) (HV.ex rfl rfl) ?_
    refine AL.val rfl (.inl rfl) (HV.ex rfl rfl) ?_
    refine AL.w rfl (.inl rfl) (WV.al ze31 rfl) ?_
    rintro _ H55 ⟨b54, rfl, hx56, hn57, hb58⟩
    have o59 := Nat.le_trans X47.bd hn57
    have o60 := Nat.le_trans X48.bd hn57
    have o61 := Nat.le_trans X49.bd hn57
    have o62 := Nat.le_trans X51.bd hn57
    have ne63 : b3 ≠ b54 := by have := hb50.lt; omega
    have X64 := Ext.trans X47 hx56
    have X65 := Ext.trans X48 hx56
    have X66 := Ext.trans X49 hx56
    have X67 := Ext.trans X51 hx56
    have ho68 := hr45.ext hx56
    have ho69 := hr46.ext hx56
    have hb70 := hb50.ext hx56
    have X71 := Ext.refl H55
    refine AL.w0 (.inl rfl) (WV.st rfl rfl va31 rfl hb58 (Nat.le_of_ble_eq_true rfl) (one_cons rfl (one_cons (sl_one1 ho68.rd.isSl) (one_cons rfl (one_cons rfl (one_cons (sl_one1 (rd_ofO ho69.rd).isSl) one_nil)))))) ?_
    rintro _ H72 ⟨hx73, hb74⟩
    have X75 := Ext.thru X64 hx73 (fun z_ hz_ => by rw [hz_]; exact o59)
    have X76 := Ext.thru X65 hx73 (fun z_ hz_ => by rw [hz_]; exact o60)
    have X77 := Ext.thru X66 hx73 (fun z_ hz_ => by rw [hz_]; exact o61)
    have X78 := Ext.thru X67 hx73 (fun z_ hz_ => by rw [hz_]; exact o62)
    have q80 := Nat.le_trans X71.bd hx73.bd
    have ho81 := ho68.but hx73 (fun b hb _ e => by have hb' : (H24.bd ≤ b ∧ b < B40) ∧ b < H41.bd := hb; have e' : b = b54 := e; omega) (fun z_ hz_ => by rw [hz_]; exact hb58.w)
    have ho82 := ho69.but hx73 (fun b hb _ e => by have hb' : (H24.bd ≤ b ∧ B40 ≤ b) ∧ b < H41.bd := hb; have e' : b = b54 := e; omega) (fun z_ hz_ => by rw [hz_]; exact hb58.w)
    have hb83 := hb70.but hx73 ne63
    have hb84 : At W H72 b54 ⟨31, [.int .i64 (zI (trC n o p k l) n), u38, .int .i64 (zI (trC n o p k l) p), .int .i64 (zI (trC n o p k l) ((tcK p k o l).length : Int)), v39], 5⟩ := hb74
    refine AL.val rfl (.inl rfl) (HV.as rfl) ?_
    refine AL.nx ?_
    refine AW.rs ?_
    refine AL.val rfl (.inl rfl) (HV.lda (cs := [.int .i64 n, vo, .int .i64 p, .int .i64 k, v]) rfl va27 (at_cells hb83 rfl)) ?_
    have X85 := Ext.refl H72
    have y86 := hb83.lt
    have y87 := hb84.lt
    have o88 := X75.bd
    have o89 := X76.bd
    have o90 := X77.bd
    have o91 := X78.bd
    have o92 := X85.bd
    have a93 := ho81.ltb
    have a94 := ho82.ltb
    refine AL.w rfl (.inl rfl) (WV.call fn15 rfl (toSc_ok n p k (ho.ext X75) (hr.ext X75) (he16 (by omega)).1 (he16 (by omega)).2)) ?_
    rintro _ H98 ⟨⟨u95, v96, B97, rfl, ho100, ho101⟩, hx99⟩
    have q104 := Nat.le_trans q80 hx99.bd
    have X105 := Ext.trans X75 hx99
    have X106 := Ext.trans X76 hx99
    have X107 := Ext.trans X77 hx99
    have X108 := Ext.trans X78 hx99
    have X109 := Ext.trans X85 hx99
    have ho110 := ho81.ext hx99
    have ho111 := ho82.ext hx99
    have hb112 := hb83.ext hx99
    have hb113 := hb84.ext hx99
    have X114 := Ext.refl H98
    have ho102 := ho100.okk (ok' := fun b => (H72.bd ≤ b ∧ b < B97) ∧ b < H98.bd) (fun b hb hlt => ⟨hb, hlt⟩)
    have ho103 := ho101.okk (ok' := fun b => (H72.bd ≤ b ∧ B97 ≤ b) ∧ b < H98.bd) (fun b hb hlt => ⟨hb, hlt⟩)
    refine AL.w rfl (.inl rfl) (WV.al ze31 rfl) ?_
    rintro _ H118 ⟨b117, rfl, hx119, hn120, hb121⟩
    have o122 := Nat.le_trans X105.bd hn120
    have o123 := Nat.le_trans X106.bd hn120
    have o124 := Nat.le_trans X107.bd hn120
    have o125 := Nat.le_trans X108.bd hn120
    have o126 := Nat.le_trans X109.bd hn120
    have o127 := Nat.le_trans X114.bd hn120
    have o128 := Nat.le_trans q104 hn120
    have ne129 : b3 ≠ b117 := by have := hb112.lt; omega
    have ne130 : b54 ≠ b117 := by have := hb113.lt; omega
    have q131 := Nat.le_trans q104 hx119.bd
    have X132 := Ext.trans X105 hx119
    have X133 := Ext.trans X106 hx119
    have X134 := Ext.trans X107 hx119
    have X135 := Ext.trans X108 hx119
    have X136 := Ext.trans X109 hx119
    have X137 := Ext.trans X114 hx119
    have ho138 := ho110.ext hx119
    have ho139 := ho111.ext hx119
    have ho140 := ho102.ext hx119
    have ho141 := ho103.ext hx119
    have hb142 := hb112.ext hx119
    have hb143 := hb113.ext hx119
    have X144 := Ext.refl H118
    refine AL.w0 (.inl rfl) (WV.st rfl rfl va31 rfl hb121 (Nat.le_of_ble_eq_true rfl) (one_cons rfl (one_cons (sl_one1 ho140.rd.isSl) (one_cons rfl (one_cons rfl (one_cons (sl_one1 (rd_ofO ho141.rd).isSl) one_nil)))))) ?_
    rintro _ H145 ⟨hx146, hb147⟩
    have q148 := Nat.le_trans q131 hx146.bd
    have X149 := Ext.thru X132 hx146 (fun z_ hz_ => by rw [hz_]; exact o122)
    have X150 := Ext.thru X133 hx146 (fun z_ hz_ => by rw [hz_]; exact o123)
    have X151 := Ext.thru X134 hx146 (fun z_ hz_ => by rw [hz_]; exact o124)
    have X152 := Ext.thru X135 hx146 (fun z_ hz_ => by rw [hz_]; exact o125)
    have X153 := Ext.thru X136 hx146 (fun z_ hz_ => by rw [hz_]; exact o126)
    have X154 := Ext.thru X137 hx146 (fun z_ hz_ => by rw [hz_]; exact o127)
    have q156 := Nat.le_trans X144.bd hx146.bd
    have ho157 := ho138.but hx146 (fun b hb _ e => by have hb' : (H24.bd ≤ b ∧ b < B40) ∧ b < H41.bd := hb; have e' : b = b117 := e; omega) (fun z_ hz_ => by rw [hz_]; exact hb121.w)
    have ho158 := ho139.but hx146 (fun b hb _ e => by have hb' : (H24.bd ≤ b ∧ B40 ≤ b) ∧ b < H41.bd := hb; have e' : b = b117 := e; omega) (fun z_ hz_ => by rw [hz_]; exact hb121.w)
    have ho159 := ho140.but hx146 (fun b hb _ e => by have hb' : (H72.bd ≤ b ∧ b < B97) ∧ b < H98.bd := hb; have e' : b = b117 := e; omega) (fun z_ hz_ => by rw [hz_]; exact hb121.w)
    have ho160 := ho141.but hx146 (fun b hb _ e => by have hb' : (H72.bd ≤ b ∧ B97 ≤ b) ∧ b < H98.bd := hb; have e' : b = b117 := e; omega) (fun z_ hz_ => by rw [hz_]; exact hb121.w)
    have hb161 := hb142.but hx146 ne129
    have hb162 := hb143.but hx146 ne130
    have hb163 : At W H145 b117 ⟨31, [.int .i64 n, u95, .int .i64 p, .int .i64 k, v96], 5⟩ := hb147
    refine AL.nx ?_
    refine AW.rs ?_
    refine AL.val rfl (.inl rfl) (HV.lda (cs := [.int .i64 n, u95, .int .i64 p, .int .i64 k, v96]) rfl va31 (at_cells hb163 rfl)) ?_
    have X164 := Ext.refl H145
    have y165 := hb161.lt
    have y166 := hb162.lt
    have y167 := hb163.lt
    have o168 := X149.bd
    have o169 := X150.bd
    have o170 := X151.bd
    have o171 := X152.bd
    have o172 := X153.bd
    have o173 := X154.bd
    have o174 := X164.bd
    have a175 := ho157.ltb
    have a176 := ho158.ltb
    have a177 := ho159.ltb
    have a178 := ho160.ltb
    refine AL.w rfl (.inl rfl) (WV.call fn35 rfl (implTR_ok n p k ho159.rd (rd_ofO ho160.rd))) ?_
    rintro _ H182 ⟨⟨u179, v180, B181, rfl, ho184, ho185⟩, hx183⟩
    have q188 := Nat.le_trans q148 hx183.bd
    have q189 := Nat.le_trans q156 hx183.bd
    have X190 := Ext.trans X149 hx183
    have X191 := Ext.trans X150 hx183
    have X192 := Ext.trans X151 hx183
    have X193 := Ext.trans X152 hx183
    have X194 := Ext.trans X153 hx183
    have X195 := Ext.trans X154 hx183
    have X196 := Ext.trans X164 hx183
    have ho197 := ho157.ext hx183
    have ho198 := ho158.ext hx183
    have ho199 := ho159.ext hx183
    have ho200 := ho160.ext hx183
    have hb201 := hb161.ext hx183
    have hb202 := hb162.ext hx183
    have hb203 := hb163.ext hx183
    have X204 := Ext.refl H182
    have hr186 := ho184.okk (ok' := fun b => (H145.bd ≤ b ∧ b < B181) ∧ b < H182.bd) (fun b hb hlt => ⟨hb, hlt⟩)
    have hr187 := ho185.okk (ok' := fun b => (H145.bd ≤ b ∧ B181 ≤ b) ∧ b < H182.bd) (fun b hb hlt => ⟨hb, hlt⟩)
    refine AL.val rfl (.inl rfl) (HV.mv rfl) ?_
    refine AL.val rfl (.inl rfl) (HV.ex rfl rfl) ?_
    refine AL.val rfl (.inl rfl) (HV.ex rfl rfl) ?_
    refine AL.w rfl (.inl rfl) (WV.al ze31 rfl) ?_
    rintro _ H208 ⟨b207, rfl, hx209, hn210, hb211⟩
    have o212 := Nat.le_trans X190.bd hn210
    have o213 := Nat.le_trans X191.bd hn210
    have o214 := Nat.le_trans X192.bd hn210
    have o215 := Nat.le_trans X193.bd hn210
    have o216 := Nat.le_trans X194.bd hn210
    have o217 := Nat.le_trans X195.bd hn210
    have o218 := Nat.le_trans X196.bd hn210
    have o219 := Nat.le_trans X204.bd hn210
    have o220 := Nat.le_trans q188 hn210
    have o221 := Nat.le_trans q189 hn210
    have ne222 : b3 ≠ b207 := by have := hb201.lt; omega
    have ne223 : b54 ≠ b207 := by have := hb202.lt; omega
    have ne224 : b117 ≠ b207 := by have := hb203.lt; omega
    have q225 := Nat.le_trans q188 hx209.bd
    have q226 := Nat.le_trans q189 hx209.bd
    have X227 := Ext.trans X190 hx209
    have X228 := Ext.trans X191 hx209
    have X229 := Ext.trans X192 hx209
    have X230 := Ext.trans X193 hx209
    have X231 := Ext.trans X194 hx209
    have X232 := Ext.trans X195 hx209
    have X233 := Ext.trans X196 hx209
    have X234 := Ext.trans X204 hx209
    have ho235 := ho197.ext hx209
    have ho236 := ho198.ext hx209
    have ho237 := ho199.ext hx209
    have ho238 := ho200.ext hx209
    have ho239 := hr186.ext hx209
    have ho240 := hr187.ext hx209
    have hb241 := hb201.ext hx209
    have hb242 := hb202.ext hx209
    have hb243 := hb203.ext hx209
    have X244 := Ext.refl H208
    refine AL.w0 (.inl rfl) (WV.st rfl rfl va31 rfl hb211 (Nat.le_of_ble_eq_true rfl) (one_cons rfl (one_cons (sl_one1 ho239.rd.isSl) (one_cons rfl (one_cons rfl (one_cons (sl_one1 (rd_ofO ho240.rd).isSl) one_nil)))))) ?_
    rintro _ H245 ⟨hx246, hb247⟩
    have q248 := Nat.le_trans q225 hx246.bd
    have q249 := Nat.le_trans q226 hx246.bd
    have X250 := Ext.thru X227 hx246 (fun z_ hz_ => by rw [hz_]; exact o212)
    have X251 := Ext.thru X228 hx246 (fun z_ hz_ => by rw [hz_]; exact o213)
    have X252 := Ext.thru X229 hx246 (fun z_ hz_ => by rw [hz_]; exact o214)
    have X253 := Ext.thru X230 hx246 (fun z_ hz_ => by rw [hz_]; exact o215)
    have X254 := Ext.thru X231 hx246 (fun z_ hz_ => by rw [hz_]; exact o216)
    have X255 := Ext.thru X232 hx246 (fun z_ hz_ => by rw [hz_]; exact o217)
    have X256 := Ext.thru X233 hx246 (fun z_ hz_ => by rw [hz_]; exact o218)
    have X257 := Ext.thru X234 hx246 (fun z_ hz_ => by rw [hz_]; exact o219)
    have q259 := Nat.le_trans X244.bd hx246.bd
    have ho260 := ho235.but hx246 (fun b hb _ e => by have hb' : (H24.bd ≤ b ∧ b < B40) ∧ b < H41.bd := hb; have e' : b = b207 := e; omega) (fun z_ hz_ => by rw [hz_]; exact hb211.w)
    have ho261 := ho236.but hx246 (fun b hb _ e => by have hb' : (H24.bd ≤ b ∧ B40 ≤ b) ∧ b < H41.bd := hb; have e' : b = b207 := e; omega) (fun z_ hz_ => by rw [hz_]; exact hb211.w)
    have ho262 := ho237.but hx246 (fun b hb _ e => by have hb' : (H72.bd ≤ b ∧ b < B97) ∧ b < H98.bd := hb; have e' : b = b207 := e; omega) (fun z_ hz_ => by rw [hz_]; exact hb211.w)
    have ho263 := ho238.but hx246 (fun b hb _ e => by have hb' : (H72.bd ≤ b ∧ B97 ≤ b) ∧ b < H98.bd := hb; have e' : b = b207 := e; omega) (fun z_ hz_ => by rw [hz_]; exact hb211.w)
    have ho264 := ho239.but hx246 (fun b hb _ e => by have hb' : (H145.bd ≤ b ∧ b < B181) ∧ b < H182.bd := hb; have e' : b = b207 := e; omega) (fun z_ hz_ => by rw [hz_]; exact hb211.w)
    have ho265 := ho240.but hx246 (fun b hb _ e => by have hb' : (H145.bd ≤ b ∧ B181 ≤ b) ∧ b < H182.bd := hb; have e' : b = b207 := e; omega) (fun z_ hz_ => by rw [hz_]; exact hb211.w)
    have hb266 := hb241.but hx246 ne222
    have hb267 := hb242.but hx246 ne223
    have hb268 := hb243.but hx246 ne224
    have hb269 : At W H245 b207 ⟨31, [.int .i64 (zI (trC n o p k l) n), u179, .int .i64 (zI (trC n o p k l) p), .int .i64 (zI (trC n o p k l) ((tcK p k o l).length : Int)), v180], 5⟩ := hb247
    refine AL.val rfl (.inl rfl) (HV.as rfl) ?_
    refine AL.nx ?_
    refine AW.seq ?_
    refine AW.rs ?_
    refine AL.val rfl (.inl rfl) (HV.lda (cs := [.int .i64 (zI (trC n o p k l) n), u179, .int .i64 (zI (trC n o p k l) p), .int .i64 (zI (trC n o p k l) ((tcK p k o l).length : Int)), v180]) rfl va31 (at_cells hb269 rfl)) ?_
    refine AL.val rfl (.inl rfl) (HV.lda (cs := [.int .i64 (zI (trC n o p k l) n), u38, .int .i64 (zI (trC n o p k l) p), .int .i64 (zI (trC n o p k l) ((tcK p k o l).length : Int)), v39]) rfl va31 (at_cells hb267 rfl)) ?_
    refine AL.w rfl (.inl rfl) (WV.call fn17 rfl (eqSc_ok (zI (trC n o p k l) n) (zI (trC n o p k l) p) (zI (trC n o p k l) ((tcK p k o l).length : Int)) (zI (trC n o p k l) n) (zI (trC n o p k l) p) (zI (trC n o p k l) ((tcK p k o l).length : Int)) ho264.rd (rd_ofO ho265.rd) ho260.rd (rd_ofO ho261.rd))) ?_
    rintro _ H270 ⟨rfl, hx271⟩
    have q272 := Nat.le_trans q248 hx271.bd
    have q273 := Nat.le_trans q249 hx271.bd
    have q274 := Nat.le_trans q259 hx271.bd
    have X275 := Ext.trans X250 hx271
    have X276 := Ext.trans X251 hx271
    have X277 := Ext.trans X252 hx271
    have X278 := Ext.trans X253 hx271
    have X279 := Ext.trans X254 hx271
    have X280 := Ext.trans X255 hx271
    have X281 := Ext.trans X256 hx271
    have X282 := Ext.trans X257 hx271
    have ho283 := ho260.ext hx271
    have ho284 := ho261.ext hx271
    have ho285 := ho262.ext hx271
    have ho286 := ho263.ext hx271
    have ho287 := ho264.ext hx271
    have ho288 := ho265.ext hx271
    have hb289 := hb266.ext hx271
    have hb290 := hb267.ext hx271
    have hb291 := hb268.ext hx271
    have hb292 := hb269.ext hx271
    refine AL.val rfl (.inl rfl) (HV.not rfl) ?_
    refine AL.val rfl (.inl rfl) (HV.mv rfl) ?_
    by_cases c293 : (zI (trC n o p k l) n) = (zI (trC n o p k l) n) ∧ (zL (trC n o p k l) (tcO p o l)) = (zL (trC n o p k l) (tcO p o l)) ∧ (zI (trC n o p k l) p) = (zI (trC n o p k l) p) ∧ (zI (trC n o p k l) ((tcK p k o l).length : Int)) = (zI (trC n o p k l) ((tcK p k o l).length : Int)) ∧ (zL (trC n o p k l) (tcR p k o l)) = (zL (trC n o p k l) (tcR p k o l))
    · -- false
      have c293_ : (!decide ((zI (trC n o p k l) n) = (zI (trC n o p k l) n) ∧ (zL (trC n o p k l) (tcO p o l)) = (zL (trC n o p k l) (tcO p o l)) ∧ (zI (trC n o p k l) p) = (zI (trC n o p k l) p) ∧ (zI (trC n o p k l) ((tcK p k o l).length : Int)) = (zI (trC n o p k l) ((tcK p k o l).length : Int)) ∧ (zL (trC n o p k l) (tcR p k o l)) = (zL (trC n o p k l) (tcR p k o l)))) = false := by rw [decide_eq_true c293]; rfl
      rw [c293_]
      refine AL.val rfl (.inr ⟨_, _, _, rfl, rfl, rfl⟩) (HV.mv rfl) ?_
      refine AL.val rfl (.inr ⟨_, _, _, rfl, rfl, rfl⟩) (HV.mv rfl) ?_
      refine AL.val rfl (.inr ⟨_, _, _, rfl, rfl, rfl⟩) (HV.nei rfl rfl) ?_
      refine AL.val rfl (.inl rfl) (HV.pickF rfl rfl) ?_
      refine AL.nx ?_
      refine AW.ifd rfl (fun c294 => ?_) (fun c294 => ?_)
      · -- then
        refine AW.rs ?_
        refine AL.val rfl (.inl rfl) (HV.as rfl) ?_
        refine AL.nx ?_
        refine AW.ret ?_
        refine ret_and ?_
        refine post_one rfl rfl ?_ (.inr rfl)
        exfalso; first | omega | (simp at c294; done) | exact c294 ⟨rfl, rfl, rfl, rfl, rfl⟩ | exact absurd c294 (by simp)
      · -- else
        refine AW.skip ?_
        refine nrm_and ?_
        refine AW.seq ?_
        refine AW.seq ?_
        refine AW.draw' [0, 0, 2, 7, 15] mixed (by rfl) ?_
        refine Dr.read 0 _ 41 _ rfl rfl rfl rfl rfl (RV.of (by intro _ _ h; cases h) (.inl rfl) (fun _ xd => HV.lda (cs := [.int .i64 n, u95, .int .i64 p, .int .i64 k, v96]) rfl va31 (fun j u hu => rdc_ext xd ((at_cells hb291 rfl) j u hu)))) ?_
        refine Dr.read 1 _ 42 _ rfl rfl rfl rfl rfl (RV.of (by intro _ _ h; cases h) (.inl rfl) (fun _ xd => HV.lda (cs := [.int .i64 n, vo, .int .i64 p, .int .i64 k, v]) rfl va27 (fun j u hu => rdc_ext xd ((at_cells hb289 rfl) j u hu)))) ?_
        refine Dr.eff 2 _ _ rfl (by intro d h; cases h; exact ⟨rfl, rfl⟩) rfl rfl rfl (EC.of (by intro _ _ h; cases h) (.inl rfl) (WV.call fn15 rfl (toSc_ok n p k (ho.ext X275) (hr.ext X275) (he16 (by omega)).1 (he16 (by omega)).2))) (fun v H' h => .inl (h.2)) ?_
        rintro _ H298 ⟨⟨u295, v296, B297, rfl, ho300, ho301⟩, hx299⟩
        have q304 := Nat.le_trans q272 hx299.bd
        have q305 := Nat.le_trans q273 hx299.bd
        have q306 := Nat.le_trans q274 hx299.bd
        have X307 := Ext.trans X275 hx299
        have X308 := Ext.trans X276 hx299
        have X309 := Ext.trans X277 hx299
        have X310 := Ext.trans X278 hx299
        have X311 := Ext.trans X279 hx299
        have X312 := Ext.trans X280 hx299
        have X313 := Ext.trans X281 hx299
        have X314 := Ext.trans X282 hx299
        have ho315 := ho283.ext hx299
        have ho316 := ho284.ext hx299
        have ho317 := ho285.ext hx299
        have ho318 := ho286.ext hx299
        have ho319 := ho287.ext hx299
        have ho320 := ho288.ext hx299
        have hb321 := hb289.ext hx299
        have hb322 := hb290.ext hx299
        have hb323 := hb291.ext hx299
        have hb324 := hb292.ext hx299
        have X325 := Ext.refl H298
        have hr302 := ho300.rd
        have hr303 := rd_ofO ho301.rd
        refine Dr.eff 3 _ _ rfl (by intro d h; cases h; exact ⟨rfl, rfl⟩) rfl rfl rfl (EC.of (by intro _ _ h; cases h) (.inl rfl) (WV.call fn17 rfl (eqSc_ok n p k n p k ho317.rd (rd_ofO ho318.rd) hr302 hr303))) (fun v H' h => .inl (h.2)) ?_
        rintro _ H326 ⟨rfl, hx327⟩
        have q328 := Nat.le_trans q304 hx327.bd
        have q329 := Nat.le_trans q305 hx327.bd
        have q330 := Nat.le_trans q306 hx327.bd
        have X331 := Ext.trans X307 hx327
        have X332 := Ext.trans X308 hx327
        have X333 := Ext.trans X309 hx327
        have X334 := Ext.trans X310 hx327
        have X335 := Ext.trans X311 hx327
        have X336 := Ext.trans X312 hx327
        have X337 := Ext.trans X313 hx327
        have X338 := Ext.trans X314 hx327
        have X339 := Ext.trans X325 hx327
        have ho340 := ho315.ext hx327
        have ho341 := ho316.ext hx327
        have ho342 := ho317.ext hx327
        have ho343 := ho318.ext hx327
        have ho344 := ho319.ext hx327
        have ho345 := ho320.ext hx327
        have hb346 := hb321.ext hx327
        have hb347 := hb322.ext hx327
        have hb348 := hb323.ext hx327
        have hb349 := hb324.ext hx327
        refine Dr.read 4 _ 45 _ rfl rfl rfl rfl rfl (RV.of (by intro _ _ h; cases h) (.inl rfl) (fun _ xd => HV.not rfl)) ?_
        refine Dr.fin rfl ?_
        refine nrm_and ?_
        refine AW.ifn rfl (fun c350 => ?_) (fun c350 => ?_)
        · -- then
          refine AW.rs ?_
          refine AL.val rfl (.inl rfl) (HV.as rfl) ?_
          refine AL.nx ?_
          refine AW.ret ?_
          refine ret_and ?_
          refine post_one rfl rfl ?_ (.inr rfl)
          exfalso; first | omega | (simp at c350; done) | exact c350 ⟨rfl, rfl, rfl, rfl, rfl⟩ | exact absurd c350 (by simp)
        · -- else
          refine AW.skip ?_
          refine nrm_and ?_
          refine AW.rs ?_
          refine AL.val rfl (.inl rfl) (HV.as rfl) ?_
          refine AL.nx ?_
          refine AW.rs ?_
          refine AL.val rfl (.inl rfl) (HV.lda (cs := [.int .i64 n, u95, .int .i64 p, .int .i64 k, v96]) rfl va31 (at_cells hb348 rfl)) ?_
          refine AL.val rfl (.inl rfl) (HV.mv rfl) ?_
          refine AL.w rfl (.inl rfl) (WV.call fn18 rfl (markSc_ok n p k ho342 ho343 (fun b h1 h2 => by have a1 := h1.1.2; have a2 := h2.1.2; omega) (fun b h => by have a1 : H72.bd ≤ b := h.1.1; omega) (he16 (by omega)).1 (he16 (by omega)).2 1 (by omega))) ?_
          rintro _ H351 ⟨⟨ko352, kl353, rfl, e356, e357, e358, e359, ho360, ho361⟩, hx354⟩
          have hx355 := But.mono hx354 (fun b e => (e.elim (fun q => ⟨q.1.1, q.2⟩) (fun q => ⟨q.1.1, q.2⟩) : H72.bd ≤ b ∧ b < H98.bd))
          have hof362 := offs_le (B := 1048576) ((he16 (by omega))).2.2 l.length (Nat.le_refl _)
          have hz363 := (he16 (by omega)).1
          have hz364 := (he16 (by omega)).2.1
          have q365 := Nat.le_trans q328 hx355.bd
          have q366 := Nat.le_trans q329 hx355.bd
          have q367 := Nat.le_trans q330 hx355.bd
          have X368 := Ext.thru X331 hx355 (fun b hb => Nat.le_trans o88 hb.1)
          have X369 := Ext.thru X332 hx355 (fun b hb => Nat.le_trans o89 hb.1)
          have X370 := Ext.thru X333 hx355 (fun b hb => Nat.le_trans o90 hb.1)
          have X371 := Ext.thru X334 hx355 (fun b hb => Nat.le_trans o91 hb.1)
          have X372 := Ext.thru X335 hx355 (fun b hb => Nat.le_trans o92 hb.1)
          have q374 := Nat.le_trans X336.bd hx355.bd
          have q376 := Nat.le_trans X337.bd hx355.bd
          have q378 := Nat.le_trans X338.bd hx355.bd
          have q380 := Nat.le_trans X339.bd hx355.bd
          have ho381 := ho340.but hx355 (fun b hb _ e => by have h1 : (H24.bd ≤ b ∧ b < B40) ∧ b < H41.bd := hb; have h2 : H72.bd ≤ b ∧ b < H98.bd := e; omega) (fun b hb => by have h2 : H72.bd ≤ b ∧ b < H98.bd := hb; omega)
          have ho382 := ho341.but hx355 (fun b hb _ e => by have h1 : (H24.bd ≤ b ∧ B40 ≤ b) ∧ b < H41.bd := hb; have h2 : H72.bd ≤ b ∧ b < H98.bd := e; omega) (fun b hb => by have h2 : H72.bd ≤ b ∧ b < H98.bd := hb; omega)
          have ho383 := ho344.but hx355 (fun b hb _ e => by have h1 : (H145.bd ≤ b ∧ b < B181) ∧ b < H182.bd := hb; have h2 : H72.bd ≤ b ∧ b < H98.bd := e; omega) (fun b hb => by have h2 : H72.bd ≤ b ∧ b < H98.bd := hb; omega)
          have ho384 := ho345.but hx355 (fun b hb _ e => by have h1 : (H145.bd ≤ b ∧ B181 ≤ b) ∧ b < H182.bd := hb; have h2 : H72.bd ≤ b ∧ b < H98.bd := e; omega) (fun b hb => by have h2 : H72.bd ≤ b ∧ b < H98.bd := hb; omega)
          have hb385 := hb346.but hx355 (fun e => by have q : H72.bd ≤ b3 ∧ b3 < H98.bd := e; omega)
          have hb386 := hb347.but hx355 (fun e => by have q : H72.bd ≤ b54 ∧ b54 < H98.bd := e; omega)
          have hb387 := hb348.but hx355 (fun e => by have q : H72.bd ≤ b117 ∧ b117 < H98.bd := e; omega)
          have hb388 := hb349.but hx355 (fun e => by have q : H72.bd ≤ b207 ∧ b207 < H98.bd := e; omega)
          refine AL.val rfl (.inl rfl) (HV.as rfl) ?_
          refine AL.nx ?_
          refine AW.seq ?_
          refine AW.rs ?_
          refine AL.val rfl (.inl rfl) (HV.mv rfl) ?_
          refine AL.val rfl (.inl rfl) (HV.lti rfl rfl) ?_
          refine AL.val rfl (.inl rfl) (HV.mv rfl) ?_
          by_cases c389 : (1 + (o.length : Int) + offs l l.length) < 0
          · -- true
            have c389_ : decide ((1 + (o.length : Int) + offs l l.length) < 0) = true := decide_eq_true c389
            rw [c389_]
            refine AL.off rfl rfl (by decide) rfl ?_
            refine AL.off rfl rfl (by decide) rfl ?_
            refine AL.off rfl rfl (by decide) rfl ?_
            refine AL.off rfl rfl (by decide) rfl ?_
            refine AL.val rfl (.inl rfl) (HV.pickT rfl rfl) ?_
            refine AL.val rfl (.inl rfl) (HV.mv rfl) ?_
            refine AL.off rfl rfl (by decide) rfl ?_
            refine AL.off rfl rfl (by decide) rfl ?_
            refine AL.off rfl rfl (by decide) rfl ?_
            refine AL.val rfl (.inl rfl) (HV.pickT rfl rfl) ?_
            refine AL.nx ?_
            refine AW.cond rfl (fun _ => ?_) (fun h => by cases h)
            refine AW.rs ?_
            refine AL.val rfl (.inl rfl) (HV.as rfl) ?_
            refine AL.nx ?_
            refine AW.ret ?_
            refine ret_and ?_
            refine post_one rfl rfl ?_ (.inr rfl)
            exfalso; first | omega | (simp at c389; done) | exact c389 ⟨rfl, rfl, rfl, rfl, rfl⟩ | exact absurd c389 (by simp)
          · -- false
            have c389_ : decide ((1 + (o.length : Int) + offs l l.length) < 0) = false := decide_eq_false c389
            rw [c389_]
            refine AL.val rfl (.inr ⟨_, _, _, rfl, rfl, rfl⟩) (HV.lda (cs := [.int .i64 (zI (trC n o p k l) n), u179, .int .i64 (zI (trC n o p k l) p), .int .i64 (zI (trC n o p k l) ((tcK p k o l).length : Int)), v180]) rfl va31 (at_cells hb388 rfl)) ?_
            refine AL.val rfl (.inr ⟨_, _, _, rfl, rfl, rfl⟩) (HV.lda (cs := [.int .i64 (zI (trC n o p k l) n), u38, .int .i64 (zI (trC n o p k l) p), .int .i64 (zI (trC n o p k l) ((tcK p k o l).length : Int)), v39]) rfl va31 (at_cells hb386 rfl)) ?_
            refine AL.w rfl (.inr ⟨_, _, _, rfl, rfl, rfl⟩) (WV.call fn17 rfl (eqSc_ok (zI (trC n o p k l) n) (zI (trC n o p k l) p) (zI (trC n o p k l) ((tcK p k o l).length : Int)) (zI (trC n o p k l) n) (zI (trC n o p k l) p) (zI (trC n o p k l) ((tcK p k o l).length : Int)) ho383.rd (rd_ofO ho384.rd) ho381.rd (rd_ofO ho382.rd))) ?_
            rintro _ H391 ⟨rfl, hx392⟩
            have q393 := Nat.le_trans q365 hx392.bd
            have q394 := Nat.le_trans q366 hx392.bd
            have q395 := Nat.le_trans q367 hx392.bd
            have q396 := Nat.le_trans q374 hx392.bd
            have q397 := Nat.le_trans q376 hx392.bd
            have q398 := Nat.le_trans q378 hx392.bd
            have q399 := Nat.le_trans q380 hx392.bd
            have X400 := Ext.trans X368 hx392
            have X401 := Ext.trans X369 hx392
            have X402 := Ext.trans X370 hx392
            have X403 := Ext.trans X371 hx392
            have X404 := Ext.trans X372 hx392
            have ho405 := ho381.ext hx392
            have ho406 := ho382.ext hx392
            have ho407 := ho383.ext hx392
            have ho408 := ho384.ext hx392
            have hb409 := hb385.ext hx392
            have hb410 := hb386.ext hx392
            have hb411 := hb387.ext hx392
            have hb412 := hb388.ext hx392
            refine AL.val rfl (.inr ⟨_, _, _, rfl, rfl, rfl⟩) (HV.not rfl) ?_
            refine AL.val rfl (.inl rfl) (HV.pickF rfl rfl) ?_
            refine AL.val rfl (.inl rfl) (HV.mv rfl) ?_
            by_cases c413 : (zI (trC n o p k l) n) = (zI (trC n o p k l) n) ∧ (zL (trC n o p k l) (tcO p o l)) = (zL (trC n o p k l) (tcO p o l)) ∧ (zI (trC n o p k l) p) = (zI (trC n o p k l) p) ∧ (zI (trC n o p k l) ((tcK p k o l).length : Int)) = (zI (trC n o p k l) ((tcK p k o l).length : Int)) ∧ (zL (trC n o p k l) (tcR p k o l)) = (zL (trC n o p k l) (tcR p k o l))
            · -- false
              have c413_ : (!decide ((zI (trC n o p k l) n) = (zI (trC n o p k l) n) ∧ (zL (trC n o p k l) (tcO p o l)) = (zL (trC n o p k l) (tcO p o l)) ∧ (zI (trC n o p k l) p) = (zI (trC n o p k l) p) ∧ (zI (trC n o p k l) ((tcK p k o l).length : Int)) = (zI (trC n o p k l) ((tcK p k o l).length : Int)) ∧ (zL (trC n o p k l) (tcR p k o l)) = (zL (trC n o p k l) (tcR p k o l)))) = false := by rw [decide_eq_true c413]; rfl
              rw [c413_]
              refine AL.val rfl (.inr ⟨_, _, _, rfl, rfl, rfl⟩) (HV.mv rfl) ?_
              refine AL.val rfl (.inr ⟨_, _, _, rfl, rfl, rfl⟩) (HV.mv rfl) ?_
              refine AL.val rfl (.inr ⟨_, _, _, rfl, rfl, rfl⟩) (HV.nei rfl rfl) ?_
              refine AL.val rfl (.inl rfl) (HV.pickF rfl rfl) ?_
              refine AL.nx ?_
              refine AW.ifd rfl (fun c414 => ?_) (fun c414 => ?_)
              · -- then
                refine AW.rs ?_
                refine AL.val rfl (.inl rfl) (HV.as rfl) ?_
                refine AL.nx ?_
                refine AW.ret ?_
                refine ret_and ?_
                refine post_one rfl rfl ?_ (.inr rfl)
                exfalso; first | omega | (simp at c414; done) | exact c414 ⟨rfl, rfl, rfl, rfl, rfl⟩ | exact absurd c414 (by simp)
              · -- else
                refine AW.skip ?_
                refine nrm_and ?_
                refine AW.rs ?_
                refine AL.val rfl (.inl rfl) (HV.as rfl) ?_
                refine AL.nx ?_
                refine AW.rs ?_
                refine AL.val rfl (.inl rfl) (HV.lda (cs := [.int .i64 (zI (trC n o p k l) n), u179, .int .i64 (zI (trC n o p k l) p), .int .i64 (zI (trC n o p k l) ((tcK p k o l).length : Int)), v180]) rfl va31 (at_cells hb412 rfl)) ?_
                refine AL.val rfl (.inl rfl) (HV.mv rfl) ?_
                refine AL.w rfl (.inl rfl) (WV.call fn18 rfl (markSc_ok (zI (trC n o p k l) n) (zI (trC n o p k l) p) (zI (trC n o p k l) ((tcK p k o l).length : Int)) ho407 ho408 (fun b h1 h2 => by have a1 := h1.1.2; have a2 := h2.1.2; omega) (fun b h => by have a1 : H145.bd ≤ b := h.1.1; omega) tr_len.1 tr_len.2 1 (by omega))) ?_
                rintro _ H415 ⟨⟨ko416, kl417, rfl, e420, e421, e422, e423, ho424, ho425⟩, hx418⟩
                have hx419 := But.mono hx418 (fun b e => (e.elim (fun q => ⟨q.1.1, q.2⟩) (fun q => ⟨q.1.1, q.2⟩) : H145.bd ≤ b ∧ b < H182.bd))
                have hof426 := offs_le (B := 1048576) (tr_len (n := n) (o := o) (p := p) (k := k) (l := l)).2.2 (zL (trC n o p k l) (tcR p k o l)).length (Nat.le_refl _)
                have q429 := Nat.le_trans q393 hx419.bd
                have q430 := Nat.le_trans q394 hx419.bd
                have q431 := Nat.le_trans q395 hx419.bd
                have q432 := Nat.le_trans q396 hx419.bd
                have q433 := Nat.le_trans q397 hx419.bd
                have q434 := Nat.le_trans q398 hx419.bd
                have q435 := Nat.le_trans q399 hx419.bd
                have X436 := Ext.thru X400 hx419 (fun b hb => Nat.le_trans o168 hb.1)
                have X437 := Ext.thru X401 hx419 (fun b hb => Nat.le_trans o169 hb.1)
                have X438 := Ext.thru X402 hx419 (fun b hb => Nat.le_trans o170 hb.1)
                have X439 := Ext.thru X403 hx419 (fun b hb => Nat.le_trans o171 hb.1)
                have X440 := Ext.thru X404 hx419 (fun b hb => Nat.le_trans o172 hb.1)
                have ho441 := ho405.but hx419 (fun b hb _ e => by have h1 : (H24.bd ≤ b ∧ b < B40) ∧ b < H41.bd := hb; have h2 : H145.bd ≤ b ∧ b < H182.bd := e; omega) (fun b hb => by have h2 : H145.bd ≤ b ∧ b < H182.bd := hb; omega)
                have ho442 := ho406.but hx419 (fun b hb _ e => by have h1 : (H24.bd ≤ b ∧ B40 ≤ b) ∧ b < H41.bd := hb; have h2 : H145.bd ≤ b ∧ b < H182.bd := e; omega) (fun b hb => by have h2 : H145.bd ≤ b ∧ b < H182.bd := hb; omega)
                have hb443 := hb409.but hx419 (fun e => by have q : H145.bd ≤ b3 ∧ b3 < H182.bd := e; omega)
                have hb444 := hb410.but hx419 (fun e => by have q : H145.bd ≤ b54 ∧ b54 < H182.bd := e; omega)
                have hb445 := hb411.but hx419 (fun e => by have q : H145.bd ≤ b117 ∧ b117 < H182.bd := e; omega)
                have hb446 := hb412.but hx419 (fun e => by have q : H145.bd ≤ b207 ∧ b207 < H182.bd := e; omega)
                refine AL.val rfl (.inl rfl) (HV.as rfl) ?_
                refine AL.nx ?_
                refine AW.rs ?_
                refine AL.val rfl (.inl rfl) (HV.as rfl) ?_
                refine AL.nx ?_
                refine AW.rs ?_
                refine AL.val rfl (.inl rfl) (HV.lda (cs := [.int .i64 (zI (trC n o p k l) n), u179, .int .i64 (zI (trC n o p k l) p), .int .i64 (zI (trC n o p k l) ((tcK p k o l).length : Int)), v180]) rfl va31 (at_cells hb446 rfl)) ?_
                refine AL.val rfl (.inl rfl) (HV.mv rfl) ?_
                have hbz := tr_len (n := n) (o := o) (p := p) (k := k) (l := l)
                refine AL.w rfl (.inl rfl) (WV.call fn19 rfl (heldSc_ok (zI (trC n o p k l) n) (zI (trC n o p k l) p) (zI (trC n o p k l) ((tcK p k o l).length : Int)) ho424.rd (rd_ofO ho425.rd) 1 (by omega) hbz.1 e420 e421 hbz.2 e422 e423)) ?_
                rintro _ H447 ⟨rfl, hx448⟩
                have q449 := Nat.le_trans q429 hx448.bd
                have q450 := Nat.le_trans q430 hx448.bd
                have q451 := Nat.le_trans q431 hx448.bd
                have q452 := Nat.le_trans q432 hx448.bd
                have q453 := Nat.le_trans q433 hx448.bd
                have q454 := Nat.le_trans q434 hx448.bd
                have q455 := Nat.le_trans q435 hx448.bd
                have X456 := Ext.trans X436 hx448
                have X457 := Ext.trans X437 hx448
                have X458 := Ext.trans X438 hx448
                have X459 := Ext.trans X439 hx448
                have X460 := Ext.trans X440 hx448
                have ho461 := ho441.ext hx448
                have ho462 := ho442.ext hx448
                have ho463 := ho424.ext hx448
                have ho464 := ho425.ext hx448
                have hb465 := hb443.ext hx448
                have hb466 := hb444.ext hx448
                have hb467 := hb445.ext hx448
                have hb468 := hb446.ext hx448
                refine AL.val rfl (.inl rfl) (HV.as rfl) ?_
                refine AL.nx ?_
                refine AW.seq ?_
                refine AW.rs ?_
                refine AL.val rfl (.inl rfl) (HV.mv rfl) ?_
                refine AL.val rfl (.inl rfl) (HV.lti rfl rfl) ?_
                refine AL.nx ?_
                refine AW.ifd rfl (fun c469 => ?_) (fun c469 => ?_)
                · -- then
                  refine AW.rs ?_
                  refine AL.val rfl (.inl rfl) (HV.as rfl) ?_
                  refine AL.nx ?_
                  refine AW.ret ?_
                  refine ret_and ?_
                  refine post_one rfl rfl ?_ (.inr rfl)
                  exfalso; first | omega | (simp at c469; done) | exact c469 ⟨rfl, rfl, rfl, rfl, rfl⟩ | exact absurd c469 (by simp)
                · -- else
                  refine AW.skip ?_
                  refine nrm_and ?_
                  refine AW.seq ?_
                  refine AW.rs ?_
                  refine AL.val rfl (.inl rfl) (HV.mv rfl) ?_
                  refine AL.val rfl (.inl rfl) (HV.mv rfl) ?_
                  refine AL.val rfl (.inl rfl) (HV.nei rfl rfl) ?_
                  refine AL.nx ?_
                  refine AW.ifd rfl (fun c470 => ?_) (fun c470 => ?_)
                  · -- then
                    refine AW.rs ?_
                    refine AL.val rfl (.inl rfl) (HV.as rfl) ?_
                    refine AL.nx ?_
                    refine AW.ret ?_
                    refine ret_and ?_
                    refine post_one rfl rfl ?_ (.inr rfl)
                    exfalso; first | omega | (simp at c470; done) | exact c470 ⟨rfl, rfl, rfl, rfl, rfl⟩ | exact absurd c470 (by simp)
                  · -- else
                    refine AW.skip ?_
                    refine nrm_and ?_
                    refine AW.rs ?_
                    refine AL.val rfl (.inl rfl) (HV.lda (cs := [.int .i64 n, vo, .int .i64 p, .int .i64 k, v]) rfl va27 (at_cells hb465 rfl)) ?_
                    refine AL.w rfl (.inl rfl) (WV.call fn15 rfl (toSc_ok n p k (ho.ext X456) (hr.ext X456) (he16 (by omega)).1 (he16 (by omega)).2)) ?_
                    rintro _ H474 ⟨⟨u471, v472, B473, rfl, ho476, ho477⟩, hx475⟩
                    have q480 := Nat.le_trans q449 hx475.bd
                    have q481 := Nat.le_trans q450 hx475.bd
                    have q482 := Nat.le_trans q451 hx475.bd
                    have q483 := Nat.le_trans q452 hx475.bd
                    have q484 := Nat.le_trans q453 hx475.bd
                    have q485 := Nat.le_trans q454 hx475.bd
                    have q486 := Nat.le_trans q455 hx475.bd
                    have X487 := Ext.trans X456 hx475
                    have X488 := Ext.trans X457 hx475
                    have X489 := Ext.trans X458 hx475
                    have X490 := Ext.trans X459 hx475
                    have X491 := Ext.trans X460 hx475
                    have ho492 := ho461.ext hx475
                    have ho493 := ho462.ext hx475
                    have ho494 := ho463.ext hx475
                    have ho495 := ho464.ext hx475
                    have hb496 := hb465.ext hx475
                    have hb497 := hb466.ext hx475
                    have hb498 := hb467.ext hx475
                    have hb499 := hb468.ext hx475
                    have X500 := Ext.refl H474
                    have hr478 := ho476.rd
                    have hr479 := rd_ofO ho477.rd
                    have y501 := hb496.lt
                    have y502 := hb497.lt
                    have y503 := hb498.lt
                    have y504 := hb499.lt
                    have o505 := X487.bd
                    have o506 := X488.bd
                    have o507 := X489.bd
                    have o508 := X490.bd
                    have o509 := X491.bd
                    have o510 := X500.bd
                    have a511 := ho492.ltb
                    have a512 := ho493.ltb
                    have a513 := ho494.ltb
                    have a514 := ho495.ltb
                    refine AL.w rfl (.inl rfl) (WV.call fn35 rfl (implTR_ok n p k hr478 hr479)) ?_
                    rintro _ H518 ⟨⟨u515, v516, B517, rfl, ho520, ho521⟩, hx519⟩
                    have q524 := Nat.le_trans q480 hx519.bd
                    have q525 := Nat.le_trans q481 hx519.bd
                    have q526 := Nat.le_trans q482 hx519.bd
                    have q527 := Nat.le_trans q483 hx519.bd
                    have q528 := Nat.le_trans q484 hx519.bd
                    have q529 := Nat.le_trans q485 hx519.bd
                    have q530 := Nat.le_trans q486 hx519.bd
                    have X531 := Ext.trans X487 hx519
                    have X532 := Ext.trans X488 hx519
                    have X533 := Ext.trans X489 hx519
                    have X534 := Ext.trans X490 hx519
                    have X535 := Ext.trans X491 hx519
                    have X536 := Ext.trans X500 hx519
                    have ho537 := ho492.ext hx519
                    have ho538 := ho493.ext hx519
                    have ho539 := ho494.ext hx519
                    have ho540 := ho495.ext hx519
                    have hb541 := hb496.ext hx519
                    have hb542 := hb497.ext hx519
                    have hb543 := hb498.ext hx519
                    have hb544 := hb499.ext hx519
                    have X545 := Ext.refl H518
                    have hr522 := ho520.okk (ok' := fun b => (H474.bd ≤ b ∧ b < B517) ∧ b < H518.bd) (fun b hb hlt => ⟨hb, hlt⟩)
                    have hr523 := ho521.okk (ok' := fun b => (H474.bd ≤ b ∧ B517 ≤ b) ∧ b < H518.bd) (fun b hb hlt => ⟨hb, hlt⟩)
                    refine AL.val rfl (.inl rfl) (HV.mv rfl) ?_
                    refine AL.val rfl (.inl rfl) (HV.ex rfl rfl) ?_
                    refine AL.val rfl (.inl rfl) (HV.ex rfl rfl) ?_
                    refine AL.w rfl (.inl rfl) (WV.al ze31 rfl) ?_
                    rintro _ H549 ⟨b548, rfl, hx550, hn551, hb552⟩
                    have o553 := Nat.le_trans X531.bd hn551
                    have o554 := Nat.le_trans X532.bd hn551
                    have o555 := Nat.le_trans X533.bd hn551
                    have o556 := Nat.le_trans X534.bd hn551
                    have o557 := Nat.le_trans X535.bd hn551
                    have o558 := Nat.le_trans X536.bd hn551
                    have o559 := Nat.le_trans X545.bd hn551
                    have o560 := Nat.le_trans q524 hn551
                    have o561 := Nat.le_trans q525 hn551
                    have o562 := Nat.le_trans q526 hn551
                    have o563 := Nat.le_trans q527 hn551
                    have o564 := Nat.le_trans q528 hn551
                    have o565 := Nat.le_trans q529 hn551
                    have o566 := Nat.le_trans q530 hn551
                    have ne567 : b3 ≠ b548 := by have := hb541.lt; omega
                    have ne568 : b54 ≠ b548 := by have := hb542.lt; omega
                    have ne569 : b117 ≠ b548 := by have := hb543.lt; omega
                    have ne570 : b207 ≠ b548 := by have := hb544.lt; omega
                    have q571 := Nat.le_trans q524 hx550.bd
                    have q572 := Nat.le_trans q525 hx550.bd
                    have q573 := Nat.le_trans q526 hx550.bd
                    have q574 := Nat.le_trans q527 hx550.bd
                    have q575 := Nat.le_trans q528 hx550.bd
                    have q576 := Nat.le_trans q529 hx550.bd
                    have q577 := Nat.le_trans q530 hx550.bd
                    have X578 := Ext.trans X531 hx550
                    have X579 := Ext.trans X532 hx550
                    have X580 := Ext.trans X533 hx550
                    have X581 := Ext.trans X534 hx550
                    have X582 := Ext.trans X535 hx550
                    have X583 := Ext.trans X536 hx550
                    have X584 := Ext.trans X545 hx550
                    have ho585 := ho537.ext hx550
                    have ho586 := ho538.ext hx550
                    have ho587 := ho539.ext hx550
                    have ho588 := ho540.ext hx550
                    have ho589 := hr522.ext hx550
                    have ho590 := hr523.ext hx550
                    have hb591 := hb541.ext hx550
                    have hb592 := hb542.ext hx550
                    have hb593 := hb543.ext hx550
                    have hb594 := hb544.ext hx550
                    have X595 := Ext.refl H549
                    refine AL.w0 (.inl rfl) (WV.st rfl rfl va31 rfl hb552 (Nat.le_of_ble_eq_true rfl) (one_cons rfl (one_cons (sl_one1 ho589.rd.isSl) (one_cons rfl (one_cons rfl (one_cons (sl_one1 (rd_ofO ho590.rd).isSl) one_nil)))))) ?_
                    rintro _ H596 ⟨hx597, hb598⟩
                    have q599 := Nat.le_trans q571 hx597.bd
                    have q600 := Nat.le_trans q572 hx597.bd
                    have q601 := Nat.le_trans q573 hx597.bd
                    have q602 := Nat.le_trans q574 hx597.bd
                    have q603 := Nat.le_trans q575 hx597.bd
                    have q604 := Nat.le_trans q576 hx597.bd
                    have q605 := Nat.le_trans q577 hx597.bd
                    have X606 := Ext.thru X578 hx597 (fun z_ hz_ => by rw [hz_]; exact o553)
                    have X607 := Ext.thru X579 hx597 (fun z_ hz_ => by rw [hz_]; exact o554)
                    have X608 := Ext.thru X580 hx597 (fun z_ hz_ => by rw [hz_]; exact o555)
                    have X609 := Ext.thru X581 hx597 (fun z_ hz_ => by rw [hz_]; exact o556)
                    have X610 := Ext.thru X582 hx597 (fun z_ hz_ => by rw [hz_]; exact o557)
                    have X611 := Ext.thru X583 hx597 (fun z_ hz_ => by rw [hz_]; exact o558)
                    have X612 := Ext.thru X584 hx597 (fun z_ hz_ => by rw [hz_]; exact o559)
                    have q614 := Nat.le_trans X595.bd hx597.bd
                    have ho615 := ho585.but hx597 (fun b hb _ e => by have hb' : (H24.bd ≤ b ∧ b < B40) ∧ b < H41.bd := hb; have e' : b = b548 := e; omega) (fun z_ hz_ => by rw [hz_]; exact hb552.w)
                    have ho616 := ho586.but hx597 (fun b hb _ e => by have hb' : (H24.bd ≤ b ∧ B40 ≤ b) ∧ b < H41.bd := hb; have e' : b = b548 := e; omega) (fun z_ hz_ => by rw [hz_]; exact hb552.w)
                    have ho617 := ho587.but hx597 (fun b hb _ e => by have hb' : (H145.bd ≤ b ∧ b < B181) ∧ b < H182.bd := hb; have e' : b = b548 := e; omega) (fun z_ hz_ => by rw [hz_]; exact hb552.w)
                    have ho618 := ho588.but hx597 (fun b hb _ e => by have hb' : (H145.bd ≤ b ∧ B181 ≤ b) ∧ b < H182.bd := hb; have e' : b = b548 := e; omega) (fun z_ hz_ => by rw [hz_]; exact hb552.w)
                    have ho619 := ho589.but hx597 (fun b hb _ e => by have hb' : (H474.bd ≤ b ∧ b < B517) ∧ b < H518.bd := hb; have e' : b = b548 := e; omega) (fun z_ hz_ => by rw [hz_]; exact hb552.w)
                    have ho620 := ho590.but hx597 (fun b hb _ e => by have hb' : (H474.bd ≤ b ∧ B517 ≤ b) ∧ b < H518.bd := hb; have e' : b = b548 := e; omega) (fun z_ hz_ => by rw [hz_]; exact hb552.w)
                    have hb621 := hb591.but hx597 ne567
                    have hb622 := hb592.but hx597 ne568
                    have hb623 := hb593.but hx597 ne569
                    have hb624 := hb594.but hx597 ne570
                    have hb625 : At W H596 b548 ⟨31, [.int .i64 (zI (trC n o p k l) n), u515, .int .i64 (zI (trC n o p k l) p), .int .i64 (zI (trC n o p k l) ((tcK p k o l).length : Int)), v516], 5⟩ := hb598
                    refine AL.val rfl (.inl rfl) (HV.as rfl) ?_
                    refine AL.nx ?_
                    refine AW.seq ?_
                    refine AW.rs ?_
                    refine AL.val rfl (.inl rfl) (HV.lda (cs := [.int .i64 (zI (trC n o p k l) n), u515, .int .i64 (zI (trC n o p k l) p), .int .i64 (zI (trC n o p k l) ((tcK p k o l).length : Int)), v516]) rfl va31 (at_cells hb625 rfl)) ?_
                    refine AL.val rfl (.inl rfl) (HV.lda (cs := [.int .i64 (zI (trC n o p k l) n), u38, .int .i64 (zI (trC n o p k l) p), .int .i64 (zI (trC n o p k l) ((tcK p k o l).length : Int)), v39]) rfl va31 (at_cells hb622 rfl)) ?_
                    refine AL.w rfl (.inl rfl) (WV.call fn17 rfl (eqSc_ok (zI (trC n o p k l) n) (zI (trC n o p k l) p) (zI (trC n o p k l) ((tcK p k o l).length : Int)) (zI (trC n o p k l) n) (zI (trC n o p k l) p) (zI (trC n o p k l) ((tcK p k o l).length : Int)) ho619.rd (rd_ofO ho620.rd) ho615.rd (rd_ofO ho616.rd))) ?_
                    rintro _ H626 ⟨rfl, hx627⟩
                    have q628 := Nat.le_trans q599 hx627.bd
                    have q629 := Nat.le_trans q600 hx627.bd
                    have q630 := Nat.le_trans q601 hx627.bd
                    have q631 := Nat.le_trans q602 hx627.bd
                    have q632 := Nat.le_trans q603 hx627.bd
                    have q633 := Nat.le_trans q604 hx627.bd
                    have q634 := Nat.le_trans q605 hx627.bd
                    have q635 := Nat.le_trans q614 hx627.bd
                    have X636 := Ext.trans X606 hx627
                    have X637 := Ext.trans X607 hx627
                    have X638 := Ext.trans X608 hx627
                    have X639 := Ext.trans X609 hx627
                    have X640 := Ext.trans X610 hx627
                    have X641 := Ext.trans X611 hx627
                    have X642 := Ext.trans X612 hx627
                    have ho643 := ho615.ext hx627
                    have ho644 := ho616.ext hx627
                    have ho645 := ho617.ext hx627
                    have ho646 := ho618.ext hx627
                    have ho647 := ho619.ext hx627
                    have ho648 := ho620.ext hx627
                    have hb649 := hb621.ext hx627
                    have hb650 := hb622.ext hx627
                    have hb651 := hb623.ext hx627
                    have hb652 := hb624.ext hx627
                    have hb653 := hb625.ext hx627
                    refine AL.val rfl (.inl rfl) (HV.not rfl) ?_
                    refine AL.val rfl (.inl rfl) (HV.mv rfl) ?_
                    by_cases c654 : (zI (trC n o p k l) n) = (zI (trC n o p k l) n) ∧ (zL (trC n o p k l) (tcO p o l)) = (zL (trC n o p k l) (tcO p o l)) ∧ (zI (trC n o p k l) p) = (zI (trC n o p k l) p) ∧ (zI (trC n o p k l) ((tcK p k o l).length : Int)) = (zI (trC n o p k l) ((tcK p k o l).length : Int)) ∧ (zL (trC n o p k l) (tcR p k o l)) = (zL (trC n o p k l) (tcR p k o l))
                    · -- false
                      have c654_ : (!decide ((zI (trC n o p k l) n) = (zI (trC n o p k l) n) ∧ (zL (trC n o p k l) (tcO p o l)) = (zL (trC n o p k l) (tcO p o l)) ∧ (zI (trC n o p k l) p) = (zI (trC n o p k l) p) ∧ (zI (trC n o p k l) ((tcK p k o l).length : Int)) = (zI (trC n o p k l) ((tcK p k o l).length : Int)) ∧ (zL (trC n o p k l) (tcR p k o l)) = (zL (trC n o p k l) (tcR p k o l)))) = false := by rw [decide_eq_true c654]; rfl
                      rw [c654_]
                      refine AL.val rfl (.inr ⟨_, _, _, rfl, rfl, rfl⟩) (HV.mv rfl) ?_
                      refine AL.val rfl (.inr ⟨_, _, _, rfl, rfl, rfl⟩) (HV.mv rfl) ?_
                      refine AL.val rfl (.inr ⟨_, _, _, rfl, rfl, rfl⟩) (HV.nei rfl rfl) ?_
                      refine AL.val rfl (.inl rfl) (HV.pickF rfl rfl) ?_
                      refine AL.nx ?_
                      refine AW.ifd rfl (fun c655 => ?_) (fun c655 => ?_)
                      · -- then
                        refine AW.rs ?_
                        refine AL.val rfl (.inl rfl) (HV.as rfl) ?_
                        refine AL.nx ?_
                        refine AW.ret ?_
                        refine ret_and ?_
                        refine post_one rfl rfl ?_ (.inr rfl)
                        exfalso; first | omega | (simp at c655; done) | exact c655 ⟨rfl, rfl, rfl, rfl, rfl⟩ | exact absurd c655 (by simp)
                      · -- else
                        refine AW.skip ?_
                        refine nrm_and ?_
                        refine AW.rs ?_
                        refine AL.val rfl (.inl rfl) (HV.as rfl) ?_
                        refine AL.nx ?_
                        refine AW.rs ?_
                        refine AL.val rfl (.inl rfl) (HV.lda (cs := [.int .i64 (zI (trC n o p k l) n), u179, .int .i64 (zI (trC n o p k l) p), .int .i64 (zI (trC n o p k l) ((tcK p k o l).length : Int)), v180]) rfl va31 (at_cells hb652 rfl)) ?_
                        refine AL.val rfl (.inl rfl) (HV.mv rfl) ?_
                        have hbz := tr_len (n := n) (o := o) (p := p) (k := k) (l := l)
                        refine AL.w rfl (.inl rfl) (WV.call fn19 rfl (heldSc_ok (zI (trC n o p k l) n) (zI (trC n o p k l) p) (zI (trC n o p k l) ((tcK p k o l).length : Int)) ho645.rd (rd_ofO ho646.rd) 1 (by omega) hbz.1 e420 e421 hbz.2 e422 e423)) ?_
                        rintro _ H656 ⟨rfl, hx657⟩
                        have q658 := Nat.le_trans q628 hx657.bd
                        have q659 := Nat.le_trans q629 hx657.bd
                        have q660 := Nat.le_trans q630 hx657.bd
                        have q661 := Nat.le_trans q631 hx657.bd
                        have q662 := Nat.le_trans q632 hx657.bd
                        have q663 := Nat.le_trans q633 hx657.bd
                        have q664 := Nat.le_trans q634 hx657.bd
                        have q665 := Nat.le_trans q635 hx657.bd
                        have X666 := Ext.trans X636 hx657
                        have X667 := Ext.trans X637 hx657
                        have X668 := Ext.trans X638 hx657
                        have X669 := Ext.trans X639 hx657
                        have X670 := Ext.trans X640 hx657
                        have X671 := Ext.trans X641 hx657
                        have X672 := Ext.trans X642 hx657
                        have ho673 := ho643.ext hx657
                        have ho674 := ho644.ext hx657
                        have ho675 := ho645.ext hx657
                        have ho676 := ho646.ext hx657
                        have ho677 := ho647.ext hx657
                        have ho678 := ho648.ext hx657
                        have hb679 := hb649.ext hx657
                        have hb680 := hb650.ext hx657
                        have hb681 := hb651.ext hx657
                        have hb682 := hb652.ext hx657
                        have hb683 := hb653.ext hx657
                        refine AL.val rfl (.inl rfl) (HV.as rfl) ?_
                        refine AL.nx ?_
                        refine AW.seq ?_
                        refine AW.rs ?_
                        refine AL.val rfl (.inl rfl) (HV.mv rfl) ?_
                        refine AL.val rfl (.inl rfl) (HV.lti rfl rfl) ?_
                        refine AL.nx ?_
                        refine AW.ifd rfl (fun c684 => ?_) (fun c684 => ?_)
                        · -- then
                          refine AW.rs ?_
                          refine AL.val rfl (.inl rfl) (HV.as rfl) ?_
                          refine AL.nx ?_
                          refine AW.ret ?_
                          refine ret_and ?_
                          refine post_one rfl rfl ?_ (.inr rfl)
                          exfalso; first | omega | (simp at c684; done) | exact c684 ⟨rfl, rfl, rfl, rfl, rfl⟩ | exact absurd c684 (by simp)
                        · -- else
                          refine AW.skip ?_
                          refine nrm_and ?_
                          refine AW.seq ?_
                          refine AW.rs ?_
                          refine AL.val rfl (.inl rfl) (HV.mv rfl) ?_
                          refine AL.val rfl (.inl rfl) (HV.mv rfl) ?_
                          refine AL.val rfl (.inl rfl) (HV.nei rfl rfl) ?_
                          refine AL.nx ?_
                          refine AW.ifd rfl (fun c685 => ?_) (fun c685 => ?_)
                          · -- then
                            refine AW.rs ?_
                            refine AL.val rfl (.inl rfl) (HV.as rfl) ?_
                            refine AL.nx ?_
                            refine AW.ret ?_
                            refine ret_and ?_
                            refine post_one rfl rfl ?_ (.inr rfl)
                            exfalso; first | omega | (simp at c685; done) | exact c685 ⟨rfl, rfl, rfl, rfl, rfl⟩ | exact absurd c685 (by simp)
                          · -- else
                            refine AW.skip ?_
                            refine nrm_and ?_
                            refine AW.rs ?_
                            refine AL.val rfl (.inl rfl) (HV.as rfl) ?_
                            refine AL.nx ?_
                            refine AW.ret ?_
                            refine post_one rfl rfl ?_ (.inr rfl)
                            exact ⟨rfl, X666⟩
                    · -- true
                      have c654_ : (!decide ((zI (trC n o p k l) n) = (zI (trC n o p k l) n) ∧ (zL (trC n o p k l) (tcO p o l)) = (zL (trC n o p k l) (tcO p o l)) ∧ (zI (trC n o p k l) p) = (zI (trC n o p k l) p) ∧ (zI (trC n o p k l) ((tcK p k o l).length : Int)) = (zI (trC n o p k l) ((tcK p k o l).length : Int)) ∧ (zL (trC n o p k l) (tcR p k o l)) = (zL (trC n o p k l) (tcR p k o l)))) = true := by rw [decide_eq_false c654]; rfl
                      rw [c654_]
                      refine AL.off rfl rfl (by decide) rfl ?_
                      refine AL.off rfl rfl (by decide) rfl ?_
                      refine AL.off rfl rfl (by decide) rfl ?_
                      refine AL.val rfl (.inl rfl) (HV.pickT rfl rfl) ?_
                      refine AL.nx ?_
                      refine AW.cond rfl (fun _ => ?_) (fun h => by cases h)
                      refine AW.rs ?_
                      refine AL.val rfl (.inl rfl) (HV.as rfl) ?_
                      refine AL.nx ?_
                      refine AW.ret ?_
                      refine ret_and ?_
                      refine post_one rfl rfl ?_ (.inr rfl)
                      exfalso; first | omega | (simp at c654; done) | exact c654 ⟨rfl, rfl, rfl, rfl, rfl⟩ | exact absurd c654 (by simp)
            · -- true
              have c413_ : (!decide ((zI (trC n o p k l) n) = (zI (trC n o p k l) n) ∧ (zL (trC n o p k l) (tcO p o l)) = (zL (trC n o p k l) (tcO p o l)) ∧ (zI (trC n o p k l) p) = (zI (trC n o p k l) p) ∧ (zI (trC n o p k l) ((tcK p k o l).length : Int)) = (zI (trC n o p k l) ((tcK p k o l).length : Int)) ∧ (zL (trC n o p k l) (tcR p k o l)) = (zL (trC n o p k l) (tcR p k o l)))) = true := by rw [decide_eq_false c413]; rfl
              rw [c413_]
              refine AL.off rfl rfl (by decide) rfl ?_
              refine AL.off rfl rfl (by decide) rfl ?_
              refine AL.off rfl rfl (by decide) rfl ?_
              refine AL.val rfl (.inl rfl) (HV.pickT rfl rfl) ?_
              refine AL.nx ?_
              refine AW.cond rfl (fun _ => ?_) (fun h => by cases h)
              refine AW.rs ?_
              refine AL.val rfl (.inl rfl) (HV.as rfl) ?_
              refine AL.nx ?_
              refine AW.ret ?_
              refine ret_and ?_
              refine post_one rfl rfl ?_ (.inr rfl)
              exfalso; first | omega | (simp at c413; done) | exact c413 ⟨rfl, rfl, rfl, rfl, rfl⟩ | exact absurd c413 (by simp)
    · -- true
      have c293_ : (!decide ((zI (trC n o p k l) n) = (zI (trC n o p k l) n) ∧ (zL (trC n o p k l) (tcO p o l)) = (zL (trC n o p k l) (tcO p o l)) ∧ (zI (trC n o p k l) p) = (zI (trC n o p k l) p) ∧ (zI (trC n o p k l) ((tcK p k o l).length : Int)) = (zI (trC n o p k l) ((tcK p k o l).length : Int)) ∧ (zL (trC n o p k l) (tcR p k o l)) = (zL (trC n o p k l) (tcR p k o l)))) = true := by rw [decide_eq_false c293]; rfl
      rw [c293_]
      refine AL.off rfl rfl (by decide) rfl ?_
      refine AL.off rfl rfl (by decide) rfl ?_
      refine AL.off rfl rfl (by decide) rfl ?_
      refine AL.val rfl (.inl rfl) (HV.pickT rfl rfl) ?_
      refine AL.nx ?_
      refine AW.cond rfl (fun _ => ?_) (fun h => by cases h)
      refine AW.rs ?_
      refine AL.val rfl (.inl rfl) (HV.as rfl) ?_
      refine AL.nx ?_
      refine AW.ret ?_
      refine ret_and ?_
      refine post_one rfl rfl ?_ (.inr rfl)
      exfalso; first | omega | (simp at c293; done) | exact c293 ⟨rfl, rfl, rfl, rfl, rfl⟩ | exact absurd c293 (by simp)
end Go.Proofs.Yticobjbjejpomaa.VC
