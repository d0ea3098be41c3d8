/- Walks. -/
import Derived.Test.YticobjbjejpomaaVF10
set_option linter.unusedVariables false
set_option linter.unusedSimpArgs false
namespace Go.Proofs.Yticobjbjejpomaa.VC
open Go Go.RowKit
variable {W : World} {H : Hp}

set_option maxRecDepth 100000 in
theorem joined_ok {vo v : Value} {o : List Int} {l : List (List Int)} {oko ok : Nat → Prop} (n p k : Int) (ho : RdK kI W H oko vo o) (hr : RdK (kR kI) W H ok v l) {vo2 v2 : Value} {o2 : List Int} {l2 : List (List Int)} {oko2 ok2 : Nat → Prop} (n2 p2 k2 : Int) (ho2 : RdK kI W H oko2 vo2 o2) (hr2 : RdK (kR kI) W H ok2 v2 l2) {b : Nat} (hb : At W H b ⟨2, [.int .i64 p], 1⟩) : ACalls Try.prog W 63 #[.agg #[.int .i64 n, vo, .int .i64 p, .int .i64 k, v], .agg #[.int .i64 n2, vo2, .int .i64 p2, .int .i64 k2, v2], (.func (.func 64) #[] #[]), (.func (.func 65) #[] #[.pointer (some ⟨b, 0, none⟩)])] H (fun r H' => (∃ (u v : Value) (B : Nat), r = .tuple #[.agg #[.int .i64 (zI (bsC n o p k l n2 o2 p2 k2 l2) n), u, .int .i64 (zI (bsC n o p k l n2 o2 p2 k2 l2) p), .int .i64 (zI (bsC n o p k l n2 o2 p2 k2 l2) (k + k2)), v], .int .i64 (bsC n o p k l n2 o2 p2 k2 l2)] ∧ OwnK kI 2 W H' (fun b => H.bd ≤ b ∧ b < B) u (zL (bsC n o p k l n2 o2 p2 k2 l2) (o ++ o2)) ∧ OwnD (kO 2 kI) 22 W H' (fun b => H.bd ≤ b ∧ B ≤ b) v (zL (bsC n o p k l n2 o2 p2 k2 l2) (joL p k k2 l l2))) ∧ Ext H H') := by
  refine ACalls.of (args := [.agg #[.int .i64 n, vo, .int .i64 p, .int .i64 k, v], .agg #[.int .i64 n2, vo2, .int .i64 p2, .int .i64 k2, v2], (.func (.func 64) #[] #[]), (.func (.func 65) #[] #[.pointer (some ⟨b, 0, none⟩)])]) Try.func63 rfl rfl ?_
  have X0 := Ext.refl H
  have hm1 := ho.max
  have hm2 := hr.max
  have hm3 := ho2.max
  have hm4 := hr2.max
  have hmx := hr.max
  have hmx2 := hr2.max
  refine AW.rs ?_
  refine AL.w rfl (.inl rfl) (WV.bx rfl rfl) ?_
  rintro _ H6 ⟨b5, rfl, hx7, hn8, hb9⟩
  have o10 := Nat.le_trans X0.bd hn8
  have ne11 : b ≠ b5 := by have := hb.lt; omega
  have X12 := Ext.trans X0 hx7
  have hb13 := hb.ext hx7
  have X14 := Ext.refl H6
  refine AL.w rfl (.inl rfl) (WV.bx rfl rfl) ?_
  rintro _ H16 ⟨b15, rfl, hx17, hn18, hb19⟩
  have o20 := Nat.le_trans X12.bd hn18
  have o21 := Nat.le_trans X14.bd hn18
  have ne22 : b ≠ b15 := by have := hb13.lt; omega
  have ne23 : b5 ≠ b15 := by have := hb9.lt; omega
  have X24 := Ext.trans X12 hx17
  have X25 := Ext.trans X14 hx17
  have hb26 := hb13.ext hx17
  have hb27 := hb9.ext hx17
  have X28 := Ext.refl H16
  refine AL.w rfl (.inl rfl) (WV.al ze31 rfl) ?_
  rintro _ H30 ⟨b29, rfl, hx31, hn32, hb33⟩
  have o34 := Nat.le_trans X24.bd hn32
  have o35 := Nat.le_trans X25.bd hn32
  have o36 := Nat.le_trans X28.bd hn32
  have ne37 : b ≠ b29 := by have := hb26.lt; omega
  have ne38 : b5 ≠ b29 := by have := hb27.lt; omega
  have ne39 : b15 ≠ b29 := by have := hb19.lt; omega
  have X40 := Ext.trans X24 hx31
  have X41 := Ext.trans X25 hx31
  have X42 := Ext.trans X28 hx31
  have hb43 := hb26.ext hx31
  have hb44 := hb27.ext hx31
  have hb45 := hb19.ext hx31
  have X46 := Ext.refl H30
  refine AL.val rfl (.inl rfl) (HV.as rfl) ?_
  refine AL.nx ?_
  refine AW.seq ?_
  refine AW.block ?_
  refine AW.rs ?_
  refine AL.val rfl (.inl rfl) (HV.lda (cs := [.int .i64 n, vo, .int .i64 p, .int .i64 k, v]) rfl va31 (at_cells hb44 rfl)) ?_
  refine AL.w rfl (.inl rfl) (WV.call fn92 rfl (ValidS_ok n p k (ho.ext X40) (hr.ext X40))) ?_
  rintro _ H47 ⟨rfl, hx48⟩
  have X49 := Ext.trans X40 hx48
  have X50 := Ext.trans X41 hx48
  have X51 := Ext.trans X42 hx48
  have X52 := Ext.trans X46 hx48
  have hb53 := hb43.ext hx48
  have hb54 := hb44.ext hx48
  have hb55 := hb45.ext hx48
  have hb56 := hb33.ext hx48
  refine AL.val rfl (.inl rfl) (HV.not rfl) ?_
  refine AL.val rfl (.inl rfl) (HV.mv rfl) ?_
  by_cases c57 : okSc n o p k l
  · -- false
    have c57_ : (!decide (okSc n o p k l)) = false := by rw [decide_eq_true c57]; rfl
    rw [c57_]
    refine AL.val rfl (.inr ⟨_, _, _, rfl, rfl, rfl⟩) (HV.lda (cs := [.int .i64 n2, vo2, .int .i64 p2, .int .i64 k2, v2]) rfl va31 (at_cells hb55 rfl)) ?_
    refine AL.w rfl (.inr ⟨_, _, _, rfl, rfl, rfl⟩) (WV.call fn92 rfl (ValidS_ok n2 p2 k2 (ho2.ext X49) (hr2.ext X49))) ?_
    rintro _ H58 ⟨rfl, hx59⟩
    have X60 := Ext.trans X49 hx59
    have X61 := Ext.trans X50 hx59
    have X62 := Ext.trans X51 hx59
    have X63 := Ext.trans X52 hx59
    have hb64 := hb53.ext hx59
    have hb65 := hb54.ext hx59
    have hb66 := hb55.ext hx59
    have hb67 := hb56.ext hx59
    refine AL.val rfl (.inr ⟨_, _, _, rfl, rfl, rfl⟩) (HV.not rfl) ?_
    refine AL.val rfl (.inl rfl) (HV.pickF rfl rfl) ?_
    refine AL.val rfl (.inl rfl) (HV.as rfl) ?_
    refine AL.nx ?_
    refine AW.ifn rfl (fun c68 => ?_) (fun c68 => ?_)
    · -- then
      refine AW.rs ?_
      refine AL.val rfl (.inl rfl) (HV.bd rfl (bd31_ )) ?_
      refine AL.w0 (.inl rfl) (WV.st rfl rfl va31 rfl hb67 (Nat.le_of_ble_eq_true rfl) (one_cons rfl (one_cons (sl_one1 ⟨none, 0, rfl⟩) (one_cons rfl (one_cons rfl (one_cons (sl_one1 ⟨none, 0, rfl⟩) one_nil)))))) ?_
      rintro _ H69 ⟨hx70, hb71⟩
      have X72 := Ext.thru X60 hx70 (fun z_ hz_ => by rw [hz_]; exact o34)
      have X73 := Ext.thru X61 hx70 (fun z_ hz_ => by rw [hz_]; exact o35)
      have X74 := Ext.thru X62 hx70 (fun z_ hz_ => by rw [hz_]; exact o36)
      have q76 := Nat.le_trans X63.bd hx70.bd
      have hb77 := hb64.but hx70 ne37
      have hb78 := hb65.but hx70 ne38
      have hb79 := hb66.but hx70 ne39
      have hb80 : At W H69 b29 ⟨31, [.int .i64 0, (.slice none 0 0), .int .i64 0, .int .i64 0, (.slice none 0 0)], 5⟩ := hb71
      refine AL.val rfl (.inl rfl) (HV.as rfl) ?_
      refine AL.nx ?_
      refine AW.ret ?_
      refine ret_blk (ret_and ?_)
      refine post_ct rfl rfl rfl va31 hb80 ?_ (.inr rfl)
      have hq : prC n o p k l n2 o2 p2 k2 l2 = 1 := prC_1 (fun q => by first | exact absurd q.1 (by assumption) | exact absurd q.2 (by assumption)); have hC : bsC n o p k l n2 o2 p2 k2 l2 = 1 := (bsC_p (by omega)).trans hq; have hC0 : bsC n o p k l n2 o2 p2 k2 l2 ≠ 0 := (by omega); exact ⟨⟨.slice none 0 0, .slice none 0 0, 0, by rw [zI_no hC0, zI_no hC0, zI_no hC0, hC] <;> rfl, by rw [zL_no hC0]; exact OwnK.nil _, by rw [zL_no hC0]; exact OwnD.nil _⟩, X72⟩
    · -- else
      refine AW.rs ?_
      refine AL.val rfl (.inl rfl) (HV.fa fl31_0 rfl) ?_
      refine AL.val rfl (.inl rfl) (HV.ld rfl va2 (at_cell hb65 rfl)) ?_
      refine AL.val rfl (.inl rfl) (HV.fa fl31_0 rfl) ?_
      refine AL.val rfl (.inl rfl) (HV.ld rfl va2 (at_cell hb66 rfl)) ?_
      refine AL.val rfl (.inl rfl) (HV.nei rfl rfl) ?_
      refine AL.val rfl (.inl rfl) (HV.mv rfl) ?_
      by_cases c81 : n ≠ n2
      · -- true
        have c81_ : decide (n ≠ n2) = true := decide_eq_true c81
        rw [c81_]
        refine AL.off rfl rfl (by decide) rfl ?_
        refine AL.off rfl rfl (by decide) rfl ?_
        refine AL.off rfl rfl (by decide) rfl ?_
        refine AL.off rfl rfl (by decide) rfl ?_
        refine AL.off rfl rfl (by decide) rfl ?_
        refine AL.off rfl rfl (by decide) rfl ?_
        refine AL.off rfl rfl (by decide) rfl ?_
        refine AL.val rfl (.inl rfl) (HV.pickT rfl rfl) ?_
        refine AL.val rfl (.inl rfl) (HV.as rfl) ?_
        refine AL.nx ?_
        refine AW.cond rfl (fun _ => ?_) (fun h => by cases h)
        refine AW.rs ?_
        refine AL.val rfl (.inl rfl) (HV.bd rfl (bd31_ )) ?_
        refine AL.w0 (.inl rfl) (WV.st rfl rfl va31 rfl hb67 (Nat.le_of_ble_eq_true rfl) (one_cons rfl (one_cons (sl_one1 ⟨none, 0, rfl⟩) (one_cons rfl (one_cons rfl (one_cons (sl_one1 ⟨none, 0, rfl⟩) one_nil)))))) ?_
        rintro _ H83 ⟨hx84, hb85⟩
        have X86 := Ext.thru X60 hx84 (fun z_ hz_ => by rw [hz_]; exact o34)
        have X87 := Ext.thru X61 hx84 (fun z_ hz_ => by rw [hz_]; exact o35)
        have X88 := Ext.thru X62 hx84 (fun z_ hz_ => by rw [hz_]; exact o36)
        have q90 := Nat.le_trans X63.bd hx84.bd
        have hb91 := hb64.but hx84 ne37
        have hb92 := hb65.but hx84 ne38
        have hb93 := hb66.but hx84 ne39
        have hb94 : At W H83 b29 ⟨31, [.int .i64 0, (.slice none 0 0), .int .i64 0, .int .i64 0, (.slice none 0 0)], 5⟩ := hb85
        refine AL.val rfl (.inl rfl) (HV.as rfl) ?_
        refine AL.nx ?_
        refine AW.ret ?_
        refine ret_blk (ret_and ?_)
        refine post_ct rfl rfl rfl va31 hb94 ?_ (.inr rfl)
        have hq : prC n o p k l n2 o2 p2 k2 l2 = 2 := prC_2 (by assumption) (by assumption) (fun q => by omega); have hC : bsC n o p k l n2 o2 p2 k2 l2 = 2 := (bsC_p (by omega)).trans hq; have hC0 : bsC n o p k l n2 o2 p2 k2 l2 ≠ 0 := (by omega); exact ⟨⟨.slice none 0 0, .slice none 0 0, 0, by rw [zI_no hC0, zI_no hC0, zI_no hC0, hC] <;> rfl, by rw [zL_no hC0]; exact OwnK.nil _, by rw [zL_no hC0]; exact OwnD.nil _⟩, X86⟩
      · -- false
        have c81_ : decide (n ≠ n2) = false := decide_eq_false c81
        rw [c81_]
        refine AL.val rfl (.inr ⟨_, _, _, rfl, rfl, rfl⟩) (HV.fa fl31_2 rfl) ?_
        refine AL.val rfl (.inr ⟨_, _, _, rfl, rfl, rfl⟩) (HV.fa fl29_0 rfl) ?_
        refine AL.val rfl (.inr ⟨_, _, _, rfl, rfl, rfl⟩) (HV.ld rfl va2 (at_cell_add (j := 2) hb65 rfl)) ?_
        refine AL.val rfl (.inr ⟨_, _, _, rfl, rfl, rfl⟩) (HV.fa fl31_2 rfl) ?_
        refine AL.val rfl (.inr ⟨_, _, _, rfl, rfl, rfl⟩) (HV.fa fl29_0 rfl) ?_
        refine AL.val rfl (.inr ⟨_, _, _, rfl, rfl, rfl⟩) (HV.ld rfl va2 (at_cell_add (j := 2) hb66 rfl)) ?_
        refine AL.val rfl (.inr ⟨_, _, _, rfl, rfl, rfl⟩) (HV.nei rfl rfl) ?_
        refine AL.val rfl (.inl rfl) (HV.pickF rfl rfl) ?_
        refine AL.val rfl (.inl rfl) (HV.as rfl) ?_
        refine AL.nx ?_
        refine AW.ifd rfl (fun c95 => ?_) (fun c95 => ?_)
        · -- then
          refine AW.rs ?_
          refine AL.val rfl (.inl rfl) (HV.bd rfl (bd31_ )) ?_
          refine AL.w0 (.inl rfl) (WV.st rfl rfl va31 rfl hb67 (Nat.le_of_ble_eq_true rfl) (one_cons rfl (one_cons (sl_one1 ⟨none, 0, rfl⟩) (one_cons rfl (one_cons rfl (one_cons (sl_one1 ⟨none, 0, rfl⟩) one_nil)))))) ?_
          rintro _ H96 ⟨hx97, hb98⟩
          have X99 := Ext.thru X60 hx97 (fun z_ hz_ => by rw [hz_]; exact o34)
          have X100 := Ext.thru X61 hx97 (fun z_ hz_ => by rw [hz_]; exact o35)
          have X101 := Ext.thru X62 hx97 (fun z_ hz_ => by rw [hz_]; exact o36)
          have q103 := Nat.le_trans X63.bd hx97.bd
          have hb104 := hb64.but hx97 ne37
          have hb105 := hb65.but hx97 ne38
          have hb106 := hb66.but hx97 ne39
          have hb107 : At W H96 b29 ⟨31, [.int .i64 0, (.slice none 0 0), .int .i64 0, .int .i64 0, (.slice none 0 0)], 5⟩ := hb98
          refine AL.val rfl (.inl rfl) (HV.as rfl) ?_
          refine AL.nx ?_
          refine AW.ret ?_
          refine ret_blk (ret_and ?_)
          refine post_ct rfl rfl rfl va31 hb107 ?_ (.inr rfl)
          have hq : prC n o p k l n2 o2 p2 k2 l2 = 2 := prC_2 (by assumption) (by assumption) (fun q => by omega); have hC : bsC n o p k l n2 o2 p2 k2 l2 = 2 := (bsC_p (by omega)).trans hq; have hC0 : bsC n o p k l n2 o2 p2 k2 l2 ≠ 0 := (by omega); exact ⟨⟨.slice none 0 0, .slice none 0 0, 0, by rw [zI_no hC0, zI_no hC0, zI_no hC0, hC] <;> rfl, by rw [zL_no hC0]; exact OwnK.nil _, by rw [zL_no hC0]; exact OwnD.nil _⟩, X99⟩
        · -- else
          refine AW.skip ?_
          refine nrm_blk (nrm_and ?_)
          refine AW.rs ?_
          have hok : okSc n o p k l := by assumption
          have hok2 : okSc n2 o2 p2 k2 l2 := by assumption
          have hnn : n = n2 := by omega
          have hpp : p = p2 := by omega
          have hwz := prC_0 hok hok2 ⟨hnn, hpp⟩
          have hln : (([0, 0] : List Int).length : Int) = 2 := rfl
          have hF := okSc_f hok
          have hG := okSc_f hok2
          have hp := hF.pb
          have hk1 := hF.k1
          have hk0 := hF.k0
          have hk2 := hG.k1
          have hk3 := hG.k0
          have hFR := hF.R
          have hGR := hG.R
          have hFo := hF.ol
          have hGo := hG.ol
          have hmx := hr.max
          have hmx2 := hr2.max
          refine AL.val rfl (.inl rfl) (HV.mv rfl) ?_
          have X108 := Ext.refl H58
          have y109 := hb64.lt
          have y110 := hb65.lt
          have y111 := hb66.lt
          have y112 := hb67.lt
          have o113 := X60.bd
          have o114 := X61.bd
          have o115 := X62.bd
          have o116 := X63.bd
          have o117 := X108.bd
          refine AL.w rfl (.inl rfl) (WV.callv fn64 rfl rfl (one_ok (W := W) 0)) ?_
          rintro v118 H119 ⟨hx120, ho121⟩
          have X122 := Ext.trans X60 hx120
          have X123 := Ext.trans X61 hx120
          have X124 := Ext.trans X62 hx120
          have X125 := Ext.trans X63 hx120
          have X126 := Ext.trans X108 hx120
          have hb127 := hb64.ext hx120
          have hb128 := hb65.ext hx120
          have hb129 := hb66.ext hx120
          have hb130 := hb67.ext hx120
          refine AL.val rfl (.inl rfl) (HV.len Try.underlying22 rfl ho121.rd.isSl) ?_
          refine AL.val rfl (.inl rfl) (HV.as rfl) ?_
          refine AL.nx ?_
          have X132 := Ext.refl H119
          refine AW.cut (fun E1_ H1_ => ∃ (u1 : Value) (b10 : Nat), Ext H119 H1_ ∧ H119.bd ≤ b10 ∧ At W H1_ b10 ⟨31, [.int .i64 n, u1, .int .i64 0, .int .i64 0, .slice none 0 0], 5⟩ ∧ OwnK kI 2 W H1_ (fun b => (H119.bd ≤ b ∧ b ≠ b10) ∧ b < H1_.bd) u1 (o ++ o2) ∧ sub [(0, .agg #[.int .i64 n, vo, .int .i64 p, .int .i64 k, v]), (1, .agg #[.int .i64 n2, vo2, .int .i64 p2, .int .i64 k2, v2]), (2, (.func (.func 64) #[] #[])), (3, (.func (.func 65) #[] #[.pointer (some ⟨b, 0, none⟩)])), (4, .pointer (some ⟨b5, 0, none⟩)), (5, .pointer (some ⟨b15, 0, none⟩)), (8, .pointer (some ⟨b29, 0, none⟩)), (9, .int .i64 0), (10, .int .i64 (([0, 0] : List Int).length : Int)), (16, .bool (!decide (okSc n2 o2 p2 k2 l2))), (17, .agg #[.int .i64 n, vo, .int .i64 p, .int .i64 k, v]), (18, .bool (decide (okSc n o p k l))), (19, .bool false), (20, .bool false), (21, .agg #[.int .i64 n2, vo2, .int .i64 p2, .int .i64 k2, v2]), (22, .bool (decide (okSc n2 o2 p2 k2 l2))), (23, .bool (!decide (okSc n2 o2 p2 k2 l2))), (24, .bool (!decide (okSc n2 o2 p2 k2 l2))), (26, .bool (decide (p ≠ p2))), (27, .pointer (some ⟨b5, 0, none⟩)), (28, .int .i64 n), (29, .pointer (some ⟨b15, 0, none⟩)), (30, .int .i64 n2), (31, .bool false), (32, .bool false), (33, .pointer (some ⟨b5, 2, none⟩)), (34, .pointer (some ⟨b5, 2, none⟩)), (35, .int .i64 p), (36, .pointer (some ⟨b15, 2, none⟩)), (37, .pointer (some ⟨b15, 2, none⟩)), (38, .int .i64 p2), (39, .bool (decide (p ≠ p2))), (40, .bool (decide (p ≠ p2))), (42, (.func (.func 64) #[] #[])), (43, v118), (44, .int .i64 (([0, 0] : List Int).length : Int)), (11, .pointer (some ⟨b10, 0, none⟩))] E1_) ?_ ?_
          · -- the region
            refine AW.draw' [0, 1, 0, 4, 12, 0, 32, 124, 255, 0, 1023] mixed (by rfl) ?_
            refine Dr.read 0 _ 45 _ rfl rfl rfl rfl rfl (RV.of (by intro _ _ h; cases h) (.inl rfl) (fun _ xd => HV.fa fl31_0 rfl)) ?_
            refine Dr.read 1 _ 46 _ rfl rfl rfl rfl rfl (RV.of (by intro _ _ h; cases h) (.inl rfl) (fun _ xd => HV.ld rfl va2 (rdc_ext xd (at_cell hb128 rfl)))) ?_
            refine Dr.read 2 _ 47 _ rfl rfl rfl rfl rfl (RV.of (by intro _ _ h; cases h) (.inl rfl) (fun _ xd => HV.fa fl31_1 rfl)) ?_
            refine Dr.read 3 _ 48 _ rfl rfl rfl rfl rfl (RV.of (by intro _ _ h; cases h) (.inl rfl) (fun _ xd => HV.ld rfl va22 (rdc_ext xd (at_cell_add (j := 1) hb128 rfl)))) ?_
            refine Dr.read 5 _ 50 _ rfl rfl rfl rfl rfl (RV.of (by intro _ _ h; cases h) (.inl rfl) (fun _ xd => HV.fa fl31_1 rfl)) ?_
            refine Dr.read 6 _ 51 _ rfl rfl rfl rfl rfl (RV.of (by intro _ _ h; cases h) (.inl rfl) (fun _ xd => HV.ld rfl va22 (rdc_ext xd (at_cell_add (j := 1) hb129 rfl)))) ?_
            have y133 := hb127.lt
            have y134 := hb128.lt
            have y135 := hb129.lt
            have y136 := hb130.lt
            have o137 := X122.bd
            have o138 := X123.bd
            have o139 := X124.bd
            have o140 := X125.bd
            have o141 := X126.bd
            have o142 := X132.bd
            refine Dr.eff2 4 9 _ _ _ _  rfl rfl  (by intro d h; cases h; exact ⟨rfl, rfl⟩) (by intro d h; cases h; exact ⟨rfl, rfl⟩) rfl rfl  rfl rfl rfl  (EC.of (by intro _ _ h; cases h) (.inl rfl) (WV.call fn87 rfl (cloneI_ok (ho.ext X122) (by omega)))) (EC.of (by intro _ _ h; cases h) (.inl rfl) (WV.al ze31 rfl)) (fun v H' h => .inl (h.1)) (fun v H' h => .inl (h.choose_spec.2.1)) ?_ ?_ 
            · -- 4 first
              have y153 := hb127.lt
              have y154 := hb128.lt
              have y155 := hb129.lt
              have y156 := hb130.lt
              have o157 := X122.bd
              have o158 := X123.bd
              have o159 := X124.bd
              have o160 := X125.bd
              have o161 := X126.bd
              have o162 := X132.bd
              rintro v163 H164 ⟨hx165, ho166⟩
              have X168 := Ext.trans X122 hx165
              have X169 := Ext.trans X123 hx165
              have X170 := Ext.trans X124 hx165
              have X171 := Ext.trans X125 hx165
              have X172 := Ext.trans X126 hx165
              have X173 := Ext.trans X132 hx165
              have hb174 := hb127.ext hx165
              have hb175 := hb128.ext hx165
              have hb176 := hb129.ext hx165
              have hb177 := hb130.ext hx165
              have ho167 := OwnK.narrow (ok' := fun b => H119.bd ≤ b ∧ some b = v163.ownBlock) kI_flat ho166 (fun b q => ⟨(ho166.blk b q).1, q⟩)
              have X179 := Ext.refl H164
              have a191 := ho167.ltb
              refine Dr.eff2 7 9 _ _ _ _  rfl rfl  (by intro d h; cases h; exact ⟨rfl, rfl⟩) (by intro d h; cases h; exact ⟨rfl, rfl⟩) rfl rfl  rfl rfl rfl  (EC.of (by intro _ _ h; cases h) (.inl rfl) (WV.apk sl22 rfl rfl ho167 (ho2.lo.ext X168) (by omega) (by omega) (fun b hb _ e => by have h1 : H119.bd ≤ b := (ho167.blk b e).1.1; have h2 : b < H.bd := hb; have h3 := o157; omega))) (EC.of (by intro _ _ h; cases h) (.inl rfl) (WV.al ze31 rfl)) ?_ (fun v H' h => .inl (h.choose_spec.2.1)) ?_ ?_ 
              · -- kept
                rintro v180 H181 ⟨hx182, ho183, hb184⟩
                have ho185 := ho183.narrow (ok' := fun b => H119.bd ≤ b ∧ some b = v180.ownBlock) kI_flat (fun b q => ⟨(hb184 b q).elim (fun e => (ho167.blk b e).1.1) (fun e => Nat.le_trans X173.bd e), q⟩)
                have X192 := Ext.thru X168 hx182 (fun b hb => Nat.le_trans o157 (ho167.blk b hb).1.1)
                have X193 := Ext.thru X169 hx182 (fun b hb => Nat.le_trans o158 (ho167.blk b hb).1.1)
                have X194 := Ext.thru X170 hx182 (fun b hb => Nat.le_trans o159 (ho167.blk b hb).1.1)
                have X195 := Ext.thru X171 hx182 (fun b hb => Nat.le_trans o160 (ho167.blk b hb).1.1)
                have X196 := Ext.thru X172 hx182 (fun b hb => Nat.le_trans o161 (ho167.blk b hb).1.1)
                have X197 := Ext.thru X173 hx182 (fun b hb => Nat.le_trans o162 (ho167.blk b hb).1.1)
                have hb198 := hb174.but hx182 (fun e => by have q : H119.bd ≤ _ := (ho167.blk _ e).1.1; omega)
                have hb199 := hb175.but hx182 (fun e => by have q : H119.bd ≤ _ := (ho167.blk _ e).1.1; omega)
                have hb200 := hb176.but hx182 (fun e => by have q : H119.bd ≤ _ := (ho167.blk _ e).1.1; omega)
                have hb201 := hb177.but hx182 (fun e => by have q : H119.bd ≤ _ := (ho167.blk _ e).1.1; omega)
                refine .inr (.inr ?_)
                exact (kept_cons (.inl rfl) (kept_cons (.inl rfl) (kept_cons (.inl rfl) (kept_cons (.inl rfl) (kept_cons (.inr ⟨_, _, _, rfl, rfl, rfl, (RV.of (by intro _ _ h; cases h) (.inl rfl) (fun _ xd => HV.ld rfl va2 (rdc_ext xd (at_cell hb199 rfl))))⟩) (kept_cons (.inr ⟨_, _, _, rfl, rfl, rfl, (RV.of (by intro _ _ h; cases h) (.inl rfl) (fun _ xd => HV.fa fl31_0 rfl))⟩) kept_nil))))))
              · -- 7 first
                have X202 := Ext.refl H164
                rintro v203 H204 ⟨hx205, ho206, hb207⟩
                have ho208 := ho206.narrow (ok' := fun b => H119.bd ≤ b ∧ some b = v203.ownBlock) kI_flat (fun b q => ⟨(hb207 b q).elim (fun e => (ho167.blk b e).1.1) (fun e => Nat.le_trans X173.bd e), q⟩)
                have X209 := Ext.thru X168 hx205 (fun b hb => Nat.le_trans o157 (ho167.blk b hb).1.1)
                have X210 := Ext.thru X169 hx205 (fun b hb => Nat.le_trans o158 (ho167.blk b hb).1.1)
                have X211 := Ext.thru X170 hx205 (fun b hb => Nat.le_trans o159 (ho167.blk b hb).1.1)
                have X212 := Ext.thru X171 hx205 (fun b hb => Nat.le_trans o160 (ho167.blk b hb).1.1)
                have X213 := Ext.thru X172 hx205 (fun b hb => Nat.le_trans o161 (ho167.blk b hb).1.1)
                have X214 := Ext.thru X173 hx205 (fun b hb => Nat.le_trans o162 (ho167.blk b hb).1.1)
                have q216 := Nat.le_trans X202.bd hx205.bd
                have hb217 := hb174.but hx205 (fun e => by have q : H119.bd ≤ _ := (ho167.blk _ e).1.1; omega)
                have hb218 := hb175.but hx205 (fun e => by have q : H119.bd ≤ _ := (ho167.blk _ e).1.1; omega)
                have hb219 := hb176.but hx205 (fun e => by have q : H119.bd ≤ _ := (ho167.blk _ e).1.1; omega)
                have hb220 := hb177.but hx205 (fun e => by have q : H119.bd ≤ _ := (ho167.blk _ e).1.1; omega)
                refine Dr.read 8 _ 53 _ rfl rfl rfl rfl rfl (RV.of (by intro _ _ h; cases h) (.inl rfl) (fun _ xd => HV.bd rfl (bd31_0_1 n ho208.rd.isSl))) ?_
                have a226 := ho208.ltb
                refine Dr.eff 9 _ _ rfl (by intro d h; cases h; exact ⟨rfl, rfl⟩) rfl rfl rfl (EC.of (by intro _ _ h; cases h) (.inl rfl) (WV.al ze31 rfl)) (fun v H' h => .inl (h.choose_spec.2.1)) ?_
                rintro _ H222 ⟨b221, rfl, hx223, hn224, hb225⟩
                have o227 := Nat.le_trans X209.bd hn224
                have o228 := Nat.le_trans X210.bd hn224
                have o229 := Nat.le_trans X211.bd hn224
                have o230 := Nat.le_trans X212.bd hn224
                have o231 := Nat.le_trans X213.bd hn224
                have o232 := Nat.le_trans X214.bd hn224
                have o233 := Nat.le_trans q216 hn224
                have a234 : ∀ b', some b' = v203.ownBlock → b' = b221 → False := fun b' h1 h2 => by have x1 := a226 b' h1; have x2 := hn224; omega
                have ne235 : b ≠ b221 := by have := hb217.lt; omega
                have ne236 : b5 ≠ b221 := by have := hb218.lt; omega
                have ne237 : b15 ≠ b221 := by have := hb219.lt; omega
                have ne238 : b29 ≠ b221 := by have := hb220.lt; omega
                have q239 := Nat.le_trans q216 hx223.bd
                have X240 := Ext.trans X209 hx223
                have X241 := Ext.trans X210 hx223
                have X242 := Ext.trans X211 hx223
                have X243 := Ext.trans X212 hx223
                have X244 := Ext.trans X213 hx223
                have X245 := Ext.trans X214 hx223
                have ho246 := ho208.ext hx223
                have hb247 := hb217.ext hx223
                have hb248 := hb218.ext hx223
                have hb249 := hb219.ext hx223
                have hb250 := hb220.ext hx223
                have X251 := Ext.refl H222
                refine Dr.eff 10 _ _ rfl (by intro d h; cases h) rfl rfl rfl (EC.of (by intro _ _ h; cases h) (.inl rfl) (WV.st rfl rfl va31 rfl hb225 (Nat.le_of_ble_eq_true rfl) (one_cons rfl (one_cons (sl_one1 ho246.rd.isSl) (one_cons rfl (one_cons rfl (one_cons (sl_one1 ⟨none, 0, rfl⟩) one_nil))))))) (fun v H' h => .inr (.inl rfl)) ?_
                rintro _ H252 ⟨hx253, hb254⟩
                have q255 := Nat.le_trans q239 hx253.bd
                have X256 := Ext.thru X240 hx253 (fun z_ hz_ => by rw [hz_]; exact o227)
                have X257 := Ext.thru X241 hx253 (fun z_ hz_ => by rw [hz_]; exact o228)
                have X258 := Ext.thru X242 hx253 (fun z_ hz_ => by rw [hz_]; exact o229)
                have X259 := Ext.thru X243 hx253 (fun z_ hz_ => by rw [hz_]; exact o230)
                have X260 := Ext.thru X244 hx253 (fun z_ hz_ => by rw [hz_]; exact o231)
                have X261 := Ext.thru X245 hx253 (fun z_ hz_ => by rw [hz_]; exact o232)
                have q263 := Nat.le_trans X251.bd hx253.bd
                have ho264 := ho246.but hx253 (fun b hb _ e => a234 b hb.2 e) (fun z_ hz_ => by rw [hz_]; exact hb225.w)
                have hb265 := hb247.but hx253 ne235
                have hb266 := hb248.but hx253 ne236
                have hb267 := hb249.but hx253 ne237
                have hb268 := hb250.but hx253 ne238
                have hb269 : At W H252 b221 ⟨31, [.int .i64 n, v203, .int .i64 0, .int .i64 0, (.slice none 0 0)], 5⟩ := hb254
                refine Dr.fin rfl ?_
                exact nrm_and ⟨v203, b221, X261, o232, hb269, (OwnK.narrow kI_flat ho264 (fun b q => ⟨⟨Nat.le_trans o162 (ho264.blk b q).1.1, fun e => a234 b q e⟩, ho264.ltb b q⟩)), rfl, rfl, rfl, rfl, rfl, rfl, rfl, rfl, rfl, rfl, rfl, rfl, rfl, rfl, rfl, rfl, rfl, rfl, rfl, rfl, rfl, rfl, rfl, rfl, rfl, rfl, rfl, rfl, rfl, rfl, rfl, rfl, rfl, rfl, rfl, rfl, rfl, trivial⟩
              · -- 9 first
                have a275 := ho167.ltb
                rintro _ H271 ⟨b270, rfl, hx272, hn273, hb274⟩
                have o276 := Nat.le_trans X168.bd hn273
                have o277 := Nat.le_trans X169.bd hn273
                have o278 := Nat.le_trans X170.bd hn273
                have o279 := Nat.le_trans X171.bd hn273
                have o280 := Nat.le_trans X172.bd hn273
                have o281 := Nat.le_trans X173.bd hn273
                have a282 : ∀ b', some b' = v163.ownBlock → b' = b270 → False := fun b' h1 h2 => by have x1 := a275 b' h1; have x2 := hn273; omega
                have ne283 : b ≠ b270 := by have := hb174.lt; omega
                have ne284 : b5 ≠ b270 := by have := hb175.lt; omega
                have ne285 : b15 ≠ b270 := by have := hb176.lt; omega
                have ne286 : b29 ≠ b270 := by have := hb177.lt; omega
                have X287 := Ext.trans X168 hx272
                have X288 := Ext.trans X169 hx272
                have X289 := Ext.trans X170 hx272
                have X290 := Ext.trans X171 hx272
                have X291 := Ext.trans X172 hx272
                have X292 := Ext.trans X173 hx272
                have ho293 := ho167.ext hx272
                have hb294 := hb174.ext hx272
                have hb295 := hb175.ext hx272
                have hb296 := hb176.ext hx272
                have hb297 := hb177.ext hx272
                have X298 := Ext.refl H271
                refine Dr.eff 7 _ _ rfl (by intro d h; cases h; exact ⟨rfl, rfl⟩) rfl rfl rfl (EC.of (by intro _ _ h; cases h) (.inl rfl) (WV.apk sl22 rfl rfl ho293 (ho2.lo.ext X287) (by omega) (by omega) (fun b hb _ e => by have h1 : H119.bd ≤ b := (ho293.blk b e).1.1; have h2 : b < H.bd := hb; have h3 := o157; omega))) ?_ ?_
                · -- kept
                  rintro v299 H300 ⟨hx301, ho302, hb303⟩
                  have ho304 := ho302.narrow (ok' := fun b => H119.bd ≤ b ∧ some b = v299.ownBlock) kI_flat (fun b q => ⟨(hb303 b q).elim (fun e => (ho293.blk b e).1.1) (fun e => Nat.le_trans X292.bd e), q⟩)
                  have a305 : ∀ b', some b' = v299.ownBlock → b' = b270 → False := fun b' h1 h2 => (hb303 b' h1).elim (fun e => a282 b' e h2) (fun e => by have := hb274.lt; omega)
                  have X306 := Ext.thru X287 hx301 (fun b hb => Nat.le_trans o157 (ho293.blk b hb).1.1)
                  have X307 := Ext.thru X288 hx301 (fun b hb => Nat.le_trans o158 (ho293.blk b hb).1.1)
                  have X308 := Ext.thru X289 hx301 (fun b hb => Nat.le_trans o159 (ho293.blk b hb).1.1)
                  have X309 := Ext.thru X290 hx301 (fun b hb => Nat.le_trans o160 (ho293.blk b hb).1.1)
                  have X310 := Ext.thru X291 hx301 (fun b hb => Nat.le_trans o161 (ho293.blk b hb).1.1)
                  have X311 := Ext.thru X292 hx301 (fun b hb => Nat.le_trans o162 (ho293.blk b hb).1.1)
                  have q313 := Nat.le_trans X298.bd hx301.bd
                  have hb314 := hb294.but hx301 (fun e => by have q : H119.bd ≤ _ := (ho293.blk _ e).1.1; omega)
                  have hb315 := hb295.but hx301 (fun e => by have q : H119.bd ≤ _ := (ho293.blk _ e).1.1; omega)
                  have hb316 := hb296.but hx301 (fun e => by have q : H119.bd ≤ _ := (ho293.blk _ e).1.1; omega)
                  have hb317 := hb297.but hx301 (fun e => by have q : H119.bd ≤ _ := (ho293.blk _ e).1.1; omega)
                  have hb318 := hb274.but hx301 (fun e => a282 _ e rfl)
                  refine .inr (.inr ?_)
                  exact (kept_cons (.inl rfl) (kept_cons (.inl rfl) (kept_cons (.inl rfl) (kept_cons (.inl rfl) (kept_cons (.inr ⟨_, _, _, rfl, rfl, rfl, (RV.of (by intro _ _ h; cases h) (.inl rfl) (fun _ xd => HV.ld rfl va2 (rdc_ext xd (at_cell hb315 rfl))))⟩) (kept_cons (.inr ⟨_, _, _, rfl, rfl, rfl, (RV.of (by intro _ _ h; cases h) (.inl rfl) (fun _ xd => HV.fa fl31_0 rfl))⟩) kept_nil))))))
                rintro v299 H300 ⟨hx301, ho302, hb303⟩
                have ho304 := ho302.narrow (ok' := fun b => H119.bd ≤ b ∧ some b = v299.ownBlock) kI_flat (fun b q => ⟨(hb303 b q).elim (fun e => (ho293.blk b e).1.1) (fun e => Nat.le_trans X292.bd e), q⟩)
                have a319 : ∀ b', some b' = v299.ownBlock → b' = b270 → False := fun b' h1 h2 => (hb303 b' h1).elim (fun e => a282 b' e h2) (fun e => by have := hb274.lt; omega)
                have X320 := Ext.thru X287 hx301 (fun b hb => Nat.le_trans o157 (ho293.blk b hb).1.1)
                have X321 := Ext.thru X288 hx301 (fun b hb => Nat.le_trans o158 (ho293.blk b hb).1.1)
                have X322 := Ext.thru X289 hx301 (fun b hb => Nat.le_trans o159 (ho293.blk b hb).1.1)
                have X323 := Ext.thru X290 hx301 (fun b hb => Nat.le_trans o160 (ho293.blk b hb).1.1)
                have X324 := Ext.thru X291 hx301 (fun b hb => Nat.le_trans o161 (ho293.blk b hb).1.1)
                have X325 := Ext.thru X292 hx301 (fun b hb => Nat.le_trans o162 (ho293.blk b hb).1.1)
                have q327 := Nat.le_trans X298.bd hx301.bd
                have hb328 := hb294.but hx301 (fun e => by have q : H119.bd ≤ _ := (ho293.blk _ e).1.1; omega)
                have hb329 := hb295.but hx301 (fun e => by have q : H119.bd ≤ _ := (ho293.blk _ e).1.1; omega)
                have hb330 := hb296.but hx301 (fun e => by have q : H119.bd ≤ _ := (ho293.blk _ e).1.1; omega)
                have hb331 := hb297.but hx301 (fun e => by have q : H119.bd ≤ _ := (ho293.blk _ e).1.1; omega)
                have hb332 := hb274.but hx301 (fun e => a282 _ e rfl)
                refine Dr.read 8 _ 53 _ rfl rfl rfl rfl rfl (RV.of (by intro _ _ h; cases h) (.inl rfl) (fun _ xd => HV.bd rfl (bd31_0_1 n ho304.rd.isSl))) ?_
                refine Dr.eff 10 _ _ rfl (by intro d h; cases h) rfl rfl rfl (EC.of (by intro _ _ h; cases h) (.inl rfl) (WV.st rfl rfl va31 rfl hb332 (Nat.le_of_ble_eq_true rfl) (one_cons rfl (one_cons (sl_one1 ho304.rd.isSl) (one_cons rfl (one_cons rfl (one_cons (sl_one1 ⟨none, 0, rfl⟩) one_nil))))))) (fun v H' h => .inr (.inl rfl)) ?_
                rintro _ H333 ⟨hx334, hb335⟩
                have q336 := Nat.le_trans q327 hx334.bd
                have X337 := Ext.thru X320 hx334 (fun z_ hz_ => by rw [hz_]; exact o276)
                have X338 := Ext.thru X321 hx334 (fun z_ hz_ => by rw [hz_]; exact o277)
                have X339 := Ext.thru X322 hx334 (fun z_ hz_ => by rw [hz_]; exact o278)
                have X340 := Ext.thru X323 hx334 (fun z_ hz_ => by rw [hz_]; exact o279)
                have X341 := Ext.thru X324 hx334 (fun z_ hz_ => by rw [hz_]; exact o280)
                have X342 := Ext.thru X325 hx334 (fun z_ hz_ => by rw [hz_]; exact o281)
                have ho343 := ho304.but hx334 (fun b hb _ e => a319 b hb.2 e) (fun z_ hz_ => by rw [hz_]; exact hb332.w)
                have hb344 := hb328.but hx334 ne283
                have hb345 := hb329.but hx334 ne284
                have hb346 := hb330.but hx334 ne285
                have hb347 := hb331.but hx334 ne286
                have hb348 : At W H333 b270 ⟨31, [.int .i64 n, v299, .int .i64 0, .int .i64 0, (.slice none 0 0)], 5⟩ := hb335
                refine Dr.fin rfl ?_
                exact nrm_and ⟨v299, b270, X342, o281, hb348, (OwnK.narrow kI_flat ho343 (fun b q => ⟨⟨Nat.le_trans o162 (ho343.blk b q).1.1, fun e => a319 b q e⟩, ho343.ltb b q⟩)), rfl, rfl, rfl, rfl, rfl, rfl, rfl, rfl, rfl, rfl, rfl, rfl, rfl, rfl, rfl, rfl, rfl, rfl, rfl, rfl, rfl, rfl, rfl, rfl, rfl, rfl, rfl, rfl, rfl, rfl, rfl, rfl, rfl, rfl, rfl, rfl, rfl, trivial⟩
            · -- 9 first
              rintro _ H350 ⟨b349, rfl, hx351, hn352, hb353⟩
              have o354 := Nat.le_trans X122.bd hn352
              have o355 := Nat.le_trans X123.bd hn352
              have o356 := Nat.le_trans X124.bd hn352
              have o357 := Nat.le_trans X125.bd hn352
              have o358 := Nat.le_trans X126.bd hn352
              have o359 := Nat.le_trans X132.bd hn352
              have ne360 : b ≠ b349 := by have := hb127.lt; omega
              have ne361 : b5 ≠ b349 := by have := hb128.lt; omega
              have ne362 : b15 ≠ b349 := by have := hb129.lt; omega
              have ne363 : b29 ≠ b349 := by have := hb130.lt; omega
              have X364 := Ext.trans X122 hx351
              have X365 := Ext.trans X123 hx351
              have X366 := Ext.trans X124 hx351
              have X367 := Ext.trans X125 hx351
              have X368 := Ext.trans X126 hx351
              have X369 := Ext.trans X132 hx351
              have hb370 := hb127.ext hx351
              have hb371 := hb128.ext hx351
              have hb372 := hb129.ext hx351
              have hb373 := hb130.ext hx351
              have X374 := Ext.refl H350
              have y375 := hb370.lt
              have y376 := hb371.lt
              have y377 := hb372.lt
              have y378 := hb373.lt
              have y379 := hb353.lt
              have o380 := X364.bd
              have o381 := X365.bd
              have o382 := X366.bd
              have o383 := X367.bd
              have o384 := X368.bd
              have o385 := X369.bd
              have o386 := X374.bd
              refine Dr.eff 4 _ _ rfl (by intro d h; cases h; exact ⟨rfl, rfl⟩) rfl rfl rfl (EC.of (by intro _ _ h; cases h) (.inl rfl) (WV.call fn87 rfl (cloneI_ok (ho.ext X364) (by omega)))) (fun v H' h => .inl (h.1)) ?_
              rintro v387 H388 ⟨hx389, ho390⟩
              have X392 := Ext.trans X364 hx389
              have X393 := Ext.trans X365 hx389
              have X394 := Ext.trans X366 hx389
              have X395 := Ext.trans X367 hx389
              have X396 := Ext.trans X368 hx389
              have X397 := Ext.trans X369 hx389
              have X398 := Ext.trans X374 hx389
              have hb399 := hb370.ext hx389
              have hb400 := hb371.ext hx389
              have hb401 := hb372.ext hx389
              have hb402 := hb373.ext hx389
              have hb403 := hb353.ext hx389
              have ho391 := OwnK.narrow (ok' := fun b => H350.bd ≤ b ∧ some b = v387.ownBlock) kI_flat ho390 (fun b q => ⟨(ho390.blk b q).1, q⟩)
              have X405 := Ext.refl H388
              refine Dr.eff 7 _ _ rfl (by intro d h; cases h; exact ⟨rfl, rfl⟩) rfl rfl rfl (EC.of (by intro _ _ h; cases h) (.inl rfl) (WV.apk sl22 rfl rfl ho391 (ho2.lo.ext X392) (by omega) (by omega) (fun b hb _ e => by have h1 : H350.bd ≤ b := (ho391.blk b e).1.1; have h2 : b < H.bd := hb; have h3 := o380; omega))) ?_ ?_
              · -- kept
                rintro v406 H407 ⟨hx408, ho409, hb410⟩
                have ho411 := ho409.narrow (ok' := fun b => H350.bd ≤ b ∧ some b = v406.ownBlock) kI_flat (fun b q => ⟨(hb410 b q).elim (fun e => (ho391.blk b e).1.1) (fun e => Nat.le_trans X398.bd e), q⟩)
                have X412 := Ext.thru X392 hx408 (fun b hb => Nat.le_trans o380 (ho391.blk b hb).1.1)
                have X413 := Ext.thru X393 hx408 (fun b hb => Nat.le_trans o381 (ho391.blk b hb).1.1)
                have X414 := Ext.thru X394 hx408 (fun b hb => Nat.le_trans o382 (ho391.blk b hb).1.1)
                have X415 := Ext.thru X395 hx408 (fun b hb => Nat.le_trans o383 (ho391.blk b hb).1.1)
                have X416 := Ext.thru X396 hx408 (fun b hb => Nat.le_trans o384 (ho391.blk b hb).1.1)
                have X417 := Ext.thru X397 hx408 (fun b hb => Nat.le_trans o385 (ho391.blk b hb).1.1)
                have X418 := Ext.thru X398 hx408 (fun b hb => Nat.le_trans o386 (ho391.blk b hb).1.1)
                have q420 := Nat.le_trans X405.bd hx408.bd
                have hb421 := hb399.but hx408 (fun e => by have q : H350.bd ≤ _ := (ho391.blk _ e).1.1; omega)
                have hb422 := hb400.but hx408 (fun e => by have q : H350.bd ≤ _ := (ho391.blk _ e).1.1; omega)
                have hb423 := hb401.but hx408 (fun e => by have q : H350.bd ≤ _ := (ho391.blk _ e).1.1; omega)
                have hb424 := hb402.but hx408 (fun e => by have q : H350.bd ≤ _ := (ho391.blk _ e).1.1; omega)
                have hb425 := hb403.but hx408 (fun e => by have q : H350.bd ≤ _ := (ho391.blk _ e).1.1; omega)
                refine .inr (.inr ?_)
                exact (kept_cons (.inl rfl) (kept_cons (.inl rfl) (kept_cons (.inl rfl) (kept_cons (.inl rfl) (kept_cons (.inr ⟨_, _, _, rfl, rfl, rfl, (RV.of (by intro _ _ h; cases h) (.inl rfl) (fun _ xd => HV.ld rfl va2 (rdc_ext xd (at_cell hb422 rfl))))⟩) (kept_cons (.inr ⟨_, _, _, rfl, rfl, rfl, (RV.of (by intro _ _ h; cases h) (.inl rfl) (fun _ xd => HV.fa fl31_0 rfl))⟩) kept_nil))))))
              rintro v406 H407 ⟨hx408, ho409, hb410⟩
              have ho411 := ho409.narrow (ok' := fun b => H350.bd ≤ b ∧ some b = v406.ownBlock) kI_flat (fun b q => ⟨(hb410 b q).elim (fun e => (ho391.blk b e).1.1) (fun e => Nat.le_trans X398.bd e), q⟩)
              have X426 := Ext.thru X392 hx408 (fun b hb => Nat.le_trans o380 (ho391.blk b hb).1.1)
              have X427 := Ext.thru X393 hx408 (fun b hb => Nat.le_trans o381 (ho391.blk b hb).1.1)
              have X428 := Ext.thru X394 hx408 (fun b hb => Nat.le_trans o382 (ho391.blk b hb).1.1)
              have X429 := Ext.thru X395 hx408 (fun b hb => Nat.le_trans o383 (ho391.blk b hb).1.1)
              have X430 := Ext.thru X396 hx408 (fun b hb => Nat.le_trans o384 (ho391.blk b hb).1.1)
              have X431 := Ext.thru X397 hx408 (fun b hb => Nat.le_trans o385 (ho391.blk b hb).1.1)
              have X432 := Ext.thru X398 hx408 (fun b hb => Nat.le_trans o386 (ho391.blk b hb).1.1)
              have q434 := Nat.le_trans X405.bd hx408.bd
              have hb435 := hb399.but hx408 (fun e => by have q : H350.bd ≤ _ := (ho391.blk _ e).1.1; omega)
              have hb436 := hb400.but hx408 (fun e => by have q : H350.bd ≤ _ := (ho391.blk _ e).1.1; omega)
              have hb437 := hb401.but hx408 (fun e => by have q : H350.bd ≤ _ := (ho391.blk _ e).1.1; omega)
              have hb438 := hb402.but hx408 (fun e => by have q : H350.bd ≤ _ := (ho391.blk _ e).1.1; omega)
              have hb439 := hb403.but hx408 (fun e => by have q : H350.bd ≤ _ := (ho391.blk _ e).1.1; omega)
              refine Dr.read 8 _ 53 _ rfl rfl rfl rfl rfl (RV.of (by intro _ _ h; cases h) (.inl rfl) (fun _ xd => HV.bd rfl (bd31_0_1 n ho411.rd.isSl))) ?_
              refine Dr.eff 10 _ _ rfl (by intro d h; cases h) rfl rfl rfl (EC.of (by intro _ _ h; cases h) (.inl rfl) (WV.st rfl rfl va31 rfl hb439 (Nat.le_of_ble_eq_true rfl) (one_cons rfl (one_cons (sl_one1 ho411.rd.isSl) (one_cons rfl (one_cons rfl (one_cons (sl_one1 ⟨none, 0, rfl⟩) one_nil))))))) (fun v H' h => .inr (.inl rfl)) ?_
              rintro _ H440 ⟨hx441, hb442⟩
              have q443 := Nat.le_trans q434 hx441.bd
              have X444 := Ext.thru X426 hx441 (fun z_ hz_ => by rw [hz_]; exact o354)
              have X445 := Ext.thru X427 hx441 (fun z_ hz_ => by rw [hz_]; exact o355)
              have X446 := Ext.thru X428 hx441 (fun z_ hz_ => by rw [hz_]; exact o356)
              have X447 := Ext.thru X429 hx441 (fun z_ hz_ => by rw [hz_]; exact o357)
              have X448 := Ext.thru X430 hx441 (fun z_ hz_ => by rw [hz_]; exact o358)
              have X449 := Ext.thru X431 hx441 (fun z_ hz_ => by rw [hz_]; exact o359)
              have q451 := Nat.le_trans X432.bd hx441.bd
              have ho452 := ho411.but hx441 (fun b hb _ e => by have hb' : H350.bd ≤ b := hb.1; have e' : b = b349 := e; omega) (fun z_ hz_ => by rw [hz_]; exact hb439.w)
              have hb453 := hb435.but hx441 ne360
              have hb454 := hb436.but hx441 ne361
              have hb455 := hb437.but hx441 ne362
              have hb456 := hb438.but hx441 ne363
              have hb457 : At W H440 b349 ⟨31, [.int .i64 n, v406, .int .i64 0, .int .i64 0, (.slice none 0 0)], 5⟩ := hb442
              refine Dr.fin rfl ?_
              exact nrm_and ⟨v406, b349, X449, o359, hb457, (OwnK.narrow kI_flat ho452 (fun b q => ⟨⟨Nat.le_trans o385 (ho452.blk b q).1.1, fun e => (show ∀ b', some b' = v406.ownBlock → b' = b349 → False from fun b' h1 e => by have a1 : H350.bd ≤ b' := (ho452.blk b' h1).1.1; omega) b q e⟩, ho452.ltb b q⟩)), rfl, rfl, rfl, rfl, rfl, rfl, rfl, rfl, rfl, rfl, rfl, rfl, rfl, rfl, rfl, rfl, rfl, rfl, rfl, rfl, rfl, rfl, rfl, rfl, rfl, rfl, rfl, rfl, rfl, rfl, rfl, rfl, rfl, rfl, rfl, rfl, rfl, trivial⟩
          · -- behind it
            rintro E1_ H1_ ⟨u1, b10, hXi, hib10, hb10, hu1, hsub⟩
            refine AW.le (E := [(0, .agg #[.int .i64 n, vo, .int .i64 p, .int .i64 k, v]), (1, .agg #[.int .i64 n2, vo2, .int .i64 p2, .int .i64 k2, v2]), (2, (.func (.func 64) #[] #[])), (3, (.func (.func 65) #[] #[.pointer (some ⟨b, 0, none⟩)])), (4, .pointer (some ⟨b5, 0, none⟩)), (5, .pointer (some ⟨b15, 0, none⟩)), (8, .pointer (some ⟨b29, 0, none⟩)), (9, .int .i64 0), (10, .int .i64 (([0, 0] : List Int).length : Int)), (16, .bool (!decide (okSc n2 o2 p2 k2 l2))), (17, .agg #[.int .i64 n, vo, .int .i64 p, .int .i64 k, v]), (18, .bool (decide (okSc n o p k l))), (19, .bool false), (20, .bool false), (21, .agg #[.int .i64 n2, vo2, .int .i64 p2, .int .i64 k2, v2]), (22, .bool (decide (okSc n2 o2 p2 k2 l2))), (23, .bool (!decide (okSc n2 o2 p2 k2 l2))), (24, .bool (!decide (okSc n2 o2 p2 k2 l2))), (26, .bool (decide (p ≠ p2))), (27, .pointer (some ⟨b5, 0, none⟩)), (28, .int .i64 n), (29, .pointer (some ⟨b15, 0, none⟩)), (30, .int .i64 n2), (31, .bool false), (32, .bool false), (33, .pointer (some ⟨b5, 2, none⟩)), (34, .pointer (some ⟨b5, 2, none⟩)), (35, .int .i64 p), (36, .pointer (some ⟨b15, 2, none⟩)), (37, .pointer (some ⟨b15, 2, none⟩)), (38, .int .i64 p2), (39, .bool (decide (p ≠ p2))), (40, .bool (decide (p ≠ p2))), (42, (.func (.func 64) #[] #[])), (43, v118), (44, .int .i64 (([0, 0] : List Int).length : Int)), (11, .pointer (some ⟨b10, 0, none⟩))]) (H := H1_) ?_ hsub (Ext.refl _)
            have o458 := X122.bd
            have o459 := X123.bd
            have o460 := X124.bd
            have o461 := X125.bd
            have o462 := X126.bd
            have o463 := X132.bd
            have y464 := hb127.lt
            have y465 := hb128.lt
            have y466 := hb129.lt
            have y467 := hb130.lt
            have X468 := Ext.trans X122 hXi
            have X469 := Ext.trans X123 hXi
            have X470 := Ext.trans X124 hXi
            have X471 := Ext.trans X125 hXi
            have X472 := Ext.trans X126 hXi
            have X473 := Ext.trans X132 hXi
            have hb474 := hb127.ext hXi
            have hb475 := hb128.ext hXi
            have hb476 := hb129.ext hXi
            have hb477 := hb130.ext hXi
            have X478 := Ext.refl H1_
            have ne479 : b ≠ b10 := by omega
            have ne480 : b5 ≠ b10 := by omega
            have ne481 : b15 ≠ b10 := by omega
            have ne482 : b29 ≠ b10 := by omega
            refine AW.rs ?_
            refine AL.val rfl (.inl rfl) (HV.fa fl31_2 rfl) ?_
            refine AL.val rfl (.inl rfl) (HV.fa fl29_0 rfl) ?_
            refine AL.val rfl (.inl rfl) (HV.ld rfl va2 (at_cell_add (j := 2) hb475 rfl)) ?_
            refine AL.val rfl (.inl rfl) (HV.mv rfl) ?_
            refine AL.val rfl (.inl rfl) (HV.fa fl31_2 rfl) ?_
            refine AL.val rfl (.inl rfl) (HV.fa fl29_1 rfl) ?_
            refine AL.val rfl (.inl rfl) (HV.ld rfl va2 (at_cell_add (j := 3) hb475 rfl)) ?_
            refine AL.val rfl (.inl rfl) (HV.add rfl rfl (by omega)) ?_
            refine AL.val rfl (.inl rfl) (HV.sub rfl rfl (by omega)) ?_
            refine AL.val rfl (.inl rfl) (HV.fa fl31_2 rfl) ?_
            refine AL.val rfl (.inl rfl) (HV.fa fl29_1 rfl) ?_
            refine AL.val rfl (.inl rfl) (HV.ld rfl va2 (at_cell_add (j := 3) hb476 rfl)) ?_
            refine AL.val rfl (.inl rfl) (HV.add rfl rfl (by omega)) ?_
            have e67 : (((((([0, 0] : List Int).length : Int) + k) - 1) + k2) - 1) = k + k2 := by omega
            refine AL.val rfl (.inl rfl) (HV.sub rfl rfl (by omega)) ?_
            rw [e67]
            refine AL.val rfl (.inl rfl) (HV.bd rfl (bd29_0_1 p (k + k2))) ?_
            refine AL.val rfl (.inl rfl) (HV.fa fl31_2 rfl) ?_
            refine AL.w0 (.inl rfl) (WV.st rfl rfl va29 rfl hb10 (Nat.le_of_ble_eq_true rfl) (one_cons rfl (one_cons rfl (one_cons (sl_one1 ⟨none, 0, rfl⟩) one_nil)))) ?_
            rintro _ H483 ⟨hx484, hb485⟩
            have X486 := Ext.thru X468 hx484 (fun z_ hz_ => by rw [hz_]; exact (Nat.le_trans o458 hib10))
            have X487 := Ext.thru X469 hx484 (fun z_ hz_ => by rw [hz_]; exact (Nat.le_trans o459 hib10))
            have X488 := Ext.thru X470 hx484 (fun z_ hz_ => by rw [hz_]; exact (Nat.le_trans o460 hib10))
            have X489 := Ext.thru X471 hx484 (fun z_ hz_ => by rw [hz_]; exact (Nat.le_trans o461 hib10))
            have X490 := Ext.thru X472 hx484 (fun z_ hz_ => by rw [hz_]; exact (Nat.le_trans o462 hib10))
            have X491 := Ext.thru X473 hx484 (fun z_ hz_ => by rw [hz_]; exact (Nat.le_trans o463 hib10))
            have q493 := Nat.le_trans X478.bd hx484.bd
            have ho494 := hu1.but hx484 (fun b hb _ e => by have hb' : (H119.bd ≤ b ∧ b ≠ b10) ∧ b < H1_.bd := hb; have e' : b = b10 := e; omega) (fun z_ hz_ => by rw [hz_]; exact hb10.w)
            have hb495 := hb474.but hx484 ne479
            have hb496 := hb475.but hx484 ne480
            have hb497 := hb476.but hx484 ne481
            have hb498 := hb477.but hx484 ne482
            have hb499 : At W H483 b10 ⟨31, [.int .i64 n, u1, .int .i64 p, .int .i64 (k + k2), (.slice none 0 0)], 5⟩ := hb485
            refine AL.nx ?_
            refine AW.seq ?_
            refine AW.rs ?_
            refine AL.val rfl (.inl rfl) (HV.fa fl31_2 rfl) ?_
            refine AL.val rfl (.inl rfl) (HV.fa fl29_2 rfl) ?_
            refine AL.val rfl (.inl rfl) (HV.ld rfl va23 (at_cell_add (j := 4) hb496 rfl)) ?_
            refine AL.val rfl (.inl rfl) (HV.len Try.underlying23 rfl hr.isSl) ?_
            refine AL.val rfl (.inl rfl) (HV.mv rfl) ?_
            refine AL.nx ?_
            refine AW.block ?_
            have X500 := Ext.refl H483
            have y501 := hb495.lt
            have y502 := hb496.lt
            have y503 := hb497.lt
            have y504 := hb498.lt
            have y505 := hb499.lt
            have o506 := X486.bd
            have o507 := X487.bd
            have o508 := X488.bd
            have o509 := X489.bd
            have o510 := X490.bd
            have o511 := X491.bd
            have o512 := X500.bd
            have a513 := ho494.ltb
            have ho514 : OwnD (kO 2 kI) 22 W H483 (fun b => H483.bd ≤ b) (.slice none 0 0) (mapR (joA k2 l) 0) := OwnD.nil _
            refine AW.loop (σ := Nat × Value) (fun ⟨i, vv⟩ => [(2, (.func (.func 64) #[] #[])), (3, (.func (.func 65) #[] #[.pointer (some ⟨b, 0, none⟩)])), (4, .pointer (some ⟨b5, 0, none⟩)), (5, .pointer (some ⟨b15, 0, none⟩)), (8, .pointer (some ⟨b29, 0, none⟩)), (9, .int .i64 0), (11, .pointer (some ⟨b10, 0, none⟩)), (72, v), (73, .int .i64 (l.length : Int)), (74, .int .i64 (i : Int))]) (fun ⟨i, vv⟩ H' => Ext H H' ∧ Ext H6 H' ∧ Ext H16 H' ∧ Ext H30 H' ∧ Ext H58 H' ∧ Ext H119 H' ∧ At W H' b ⟨2, [.int .i64 p], 1⟩ ∧ At W H' b5 ⟨31, [.int .i64 n, vo, .int .i64 p, .int .i64 k, v], 5⟩ ∧ At W H' b15 ⟨31, [.int .i64 n2, vo2, .int .i64 p2, .int .i64 k2, v2], 5⟩ ∧ At W H' b29 ⟨31, [.int .i64 0, (.slice none 0 0), .int .i64 0, .int .i64 0, (.slice none 0 0)], 5⟩ ∧ H483.bd ≤ H'.bd ∧ H1_.bd ≤ H'.bd ∧ i ≤ l.length ∧ At W H' b10 ⟨31, [.int .i64 n, u1, .int .i64 p, .int .i64 (k + k2), vv], 5⟩ ∧ OwnD (kO 2 kI) 22 W H' (fun b => H483.bd ≤ b) vv (mapR (joA k2 l) i) ∧ OwnK kI 2 W H' (fun b => (H119.bd ≤ b ∧ b ≠ b10) ∧ b < H1_.bd) u1 (o ++ o2) ∧ True) (fun ⟨i, vv⟩ => l.length - i) (0, (.slice none 0 0)) ⟨X486, X487, X488, X489, X490, X491, hb495, hb496, hb497, hb498, X500.bd, q493, Nat.zero_le _, hb499, ho514, ho494, trivial⟩ ⟨rfl, rfl, rfl, rfl, rfl, rfl, rfl, rfl, rfl, rfl, trivial⟩ ?_
            rintro ⟨i, vv⟩ H516 ⟨X517, X518, X519, X520, X521, X522, hb523, hb524, hb525, hb526, q527, q528, hi, hbBi, hoLi, hoUi, _⟩
            refine AW.rs ?_
            refine AL.val rfl (.inl rfl) (HV.lti rfl rfl) ?_
            refine AL.nx ?_
            refine AW.seq ?_
            refine AW.ifd rfl (fun c529 => ?_) (fun c529 => ?_)
            · -- then
              refine AW.skip ?_
              refine nrm_and ?_
              refine AW.seq ?_
              refine AW.block ?_
              refine AW.rs ?_
              obtain ⟨p530, z531, cs532, hz533, hK534, hC535, hP536⟩ := RdK.ix (q := (i : Int)) hr sl23 (by omega) (by omega)
              obtain ⟨v537, rfl, hr538⟩ := hK534
              have hm539 := hr538.max
              refine AL.val rfl (.inl rfl) (hP536 rfl rfl) ?_
              refine AL.val rfl (.inl rfl) (HV.ld rfl va22 (cells_first (hC535.ext X517) rfl)) ?_
              have q1 := rect_at hF.r hz533
              have q2 := q1.1
              have q3 : l.getD i [] = z531 := gd hz533 rfl
              refine AL.val rfl (.inl rfl) (HV.as rfl) ?_
              refine AL.nx ?_
              refine AW.draw' [0, 1, 3, 0, 0, 16, 48, 120, 0, 256, 0, 1024, 3072, 7168, 15360, 32760, 65528, 131064, 262143, 524287, 1048575, 2097151] mixed (by rfl) ?_
              refine Dr.read 0 _ 78 _ rfl rfl rfl rfl rfl (RV.of (by intro _ _ h; cases h) (.inl rfl) (fun _ xd => HV.fa fl31_2 rfl)) ?_
              refine Dr.read 1 _ 79 _ rfl rfl rfl rfl rfl (RV.of (by intro _ _ h; cases h) (.inl rfl) (fun _ xd => HV.fa fl29_2 rfl)) ?_
              refine Dr.read 2 _ 80 _ rfl rfl rfl rfl rfl (RV.of (by intro _ _ h; cases h) (.inl rfl) (fun _ xd => HV.ld rfl va23 (rdc_ext xd (at_cell_add (j := 4) hbBi rfl)))) ?_
              refine Dr.read 3 _ 81 _ rfl rfl rfl rfl rfl (RV.of (by intro _ _ h; cases h) (.inl rfl) (fun _ xd => HV.mv rfl)) ?_
              refine Dr.read 4 _ 82 _ rfl rfl rfl rfl rfl (RV.of (by intro _ _ h; cases h) (.inl rfl) (fun _ xd => HV.mv rfl)) ?_
              obtain ⟨p540, z541, cs542, hz543, hK544, hC545, hP546⟩ := RdK.ix (q := 0) hr538 sl22 (by omega) (by omega)
              obtain rfl : cs542 = [.int .i64 z541] := hK544
              refine Dr.read 5 _ 83 _ rfl rfl rfl rfl rfl (RV.of (by intro _ _ h; cases h) (.inl rfl) (fun _ xd => hP546 rfl rfl)) ?_
              refine Dr.read 6 _ 84 _ rfl rfl rfl rfl rfl (RV.of (by intro _ _ h; cases h) (.inl rfl) (fun _ xd => HV.ld rfl va2 (rdc_ext xd (cells_first (hC545.ext X517) rfl)))) ?_
              refine Dr.read 8 _ 86 _ rfl rfl rfl rfl rfl (RV.of (by intro _ _ h; cases h) (.inl rfl) (fun _ xd => HV.mv rfl)) ?_
              have X550 := Ext.refl H516
              obtain ⟨v547, hr548, hP549⟩ := RdK.cutL (q := 1) hr538 sl22 (by decide) (by omega)
              refine Dr.read 9 _ 87 _ rfl rfl rfl rfl rfl (RV.of (by intro _ _ h; cases h) (.inl rfl) (fun _ xd => hP549 rfl rfl)) ?_
              refine Dr.read 10 _ 88 _ rfl rfl rfl rfl rfl (RV.of (by intro _ _ h; cases h) (.inl rfl) (fun _ xd => HV.fa fl31_2 rfl)) ?_
              refine Dr.read 11 _ 89 _ rfl rfl rfl rfl rfl (RV.of (by intro _ _ h; cases h) (.inl rfl) (fun _ xd => HV.fa fl29_1 rfl)) ?_
              refine Dr.read 12 _ 90 _ rfl rfl rfl rfl rfl (RV.of (by intro _ _ h; cases h) (.inl rfl) (fun _ xd => HV.ld rfl va2 (rdc_ext xd (at_cell_add (j := 3) hb525 rfl)))) ?_
              refine Dr.read 13 _ 91 _ rfl rfl rfl rfl rfl (RV.of (by intro _ _ h; cases h) (.inl rfl) (fun _ xd => HV.sub rfl rfl (by omega))) ?_
              have y551 := hb523.lt
              have y552 := hb524.lt
              have y553 := hb525.lt
              have y554 := hb526.lt
              have y555 := hbBi.lt
              have o556 := X517.bd
              have o557 := X518.bd
              have o558 := X519.bd
              have o559 := X520.bd
              have o560 := X521.bd
              have o561 := X522.bd
              have o562 := X550.bd
              have a563 := hoLi.ltb
              have ho564 := hoLi.okk (ok' := fun b => H483.bd ≤ b ∧ b < H516.bd) (fun b hb hlt => ⟨hb, hlt⟩)
              have a565 := hoUi.ltb
              have y570 := hb523.lt
              have y571 := hb524.lt
              have y572 := hb525.lt
              have y573 := hb526.lt
              have y574 := hbBi.lt
              have o575 := X517.bd
              have o576 := X518.bd
              have o577 := X519.bd
              have o578 := X520.bd
              have o579 := X521.bd
              have o580 := X522.bd
              have o581 := X550.bd
              have a582 := hoLi.ltb
              have ho583 := hoLi.okk (ok' := fun b => H483.bd ≤ b ∧ b < H516.bd) (fun b hb hlt => ⟨hb, hlt⟩)
              have a584 := hoUi.ltb
              refine Dr.eff2 7 14 _ _ _ _  rfl rfl  (by intro d h; cases h; exact ⟨rfl, rfl⟩) (by intro d h; cases h; exact ⟨rfl, rfl⟩) rfl rfl  rfl rfl rfl  (EC.of (by intro _ _ h; cases h) (.inl rfl) (WV.callv fn64 rfl rfl (one_ok (W := W) z541))) (EC.of (by intro _ _ h; cases h) (.inl rfl) (WV.mkK (K := kI) (0 : Int) (fun _ _ _ => rfl) sl22 rfl rfl rfl (by omega) (by omega) (by omega))) (fun v H' h => .inl (h.1)) (fun v H' h => .inl (h.1)) ?_ ?_ 
              · -- 7 first
                have y589 := hb523.lt
                have y590 := hb524.lt
                have y591 := hb525.lt
                have y592 := hb526.lt
                have y593 := hbBi.lt
                have o594 := X517.bd
                have o595 := X518.bd
                have o596 := X519.bd
                have o597 := X520.bd
                have o598 := X521.bd
                have o599 := X522.bd
                have o600 := X550.bd
                have a601 := hoLi.ltb
                have ho602 := hoLi.okk (ok' := fun b => H483.bd ≤ b ∧ b < H516.bd) (fun b hb hlt => ⟨hb, hlt⟩)
                have a603 := hoUi.ltb
                rintro v604 H605 ⟨hx606, ho607⟩
                have q608 := Nat.le_trans q527 hx606.bd
                have q609 := Nat.le_trans q528 hx606.bd
                have X610 := Ext.trans X517 hx606
                have X611 := Ext.trans X518 hx606
                have X612 := Ext.trans X519 hx606
                have X613 := Ext.trans X520 hx606
                have X614 := Ext.trans X521 hx606
                have X615 := Ext.trans X522 hx606
                have X616 := Ext.trans X550 hx606
                have ho617 := ho602.ext hx606
                have ho618 := hoUi.ext hx606
                have hb619 := hb523.ext hx606
                have hb620 := hb524.ext hx606
                have hb621 := hb525.ext hx606
                have hb622 := hb526.ext hx606
                have hb623 := hbBi.ext hx606
                have X625 := Ext.refl H605
                have y626 := hb619.lt
                have y627 := hb620.lt
                have y628 := hb621.lt
                have y629 := hb622.lt
                have y630 := hb623.lt
                have o631 := X610.bd
                have o632 := X611.bd
                have o633 := X612.bd
                have o634 := X613.bd
                have o635 := X614.bd
                have o636 := X615.bd
                have o637 := X616.bd
                have o638 := X625.bd
                have a639 := ho617.ltb
                have a640 := ho618.ltb
                have a641 := ho607.ltb
                refine Dr.eff 14 _ _ rfl (by intro d h; cases h; exact ⟨rfl, rfl⟩) rfl rfl rfl (EC.of (by intro _ _ h; cases h) (.inl rfl) (WV.mkK (K := kI) (0 : Int) (fun _ _ _ => rfl) sl22 rfl rfl rfl (by omega) (by omega) (by omega))) (fun v H' h => .inl (h.1)) ?_
                rintro v642 H643 ⟨hx644, ho645⟩
                have q646 := Nat.le_trans q608 hx644.bd
                have q647 := Nat.le_trans q609 hx644.bd
                have X648 := Ext.trans X610 hx644
                have X649 := Ext.trans X611 hx644
                have X650 := Ext.trans X612 hx644
                have X651 := Ext.trans X613 hx644
                have X652 := Ext.trans X614 hx644
                have X653 := Ext.trans X615 hx644
                have X654 := Ext.trans X616 hx644
                have X655 := Ext.trans X625 hx644
                have ho656 := ho617.ext hx644
                have ho657 := ho618.ext hx644
                have ho658 := ho607.ext hx644
                have hb659 := hb619.ext hx644
                have hb660 := hb620.ext hx644
                have hb661 := hb621.ext hx644
                have hb662 := hb622.ext hx644
                have hb663 := hb623.ext hx644
                have X665 := Ext.refl H643
                have y666 := hb659.lt
                have y667 := hb660.lt
                have y668 := hb661.lt
                have y669 := hb662.lt
                have y670 := hb663.lt
                have o671 := X648.bd
                have o672 := X649.bd
                have o673 := X650.bd
                have o674 := X651.bd
                have o675 := X652.bd
                have o676 := X653.bd
                have o677 := X654.bd
                have o678 := X655.bd
                have o679 := X665.bd
                have a680 := ho656.ltb
                have a681 := ho657.ltb
                have a682 := ho658.ltb
                have a683 := ho645.ltb
                have hr688 := (ho658.rd).okk (ok' := fun _ => True) (fun _ _ _ => trivial)
                have hc689 : v604.cells = #[v604] := by obtain ⟨A, c, e⟩ := hr688.isSl; rw [e]; rfl
                have hr690 := ((hr548.ext X648)).okk (ok' := fun _ => True) (fun _ _ _ => trivial)
                have hc691 : v547.cells = #[v547] := by obtain ⟨A, c, e⟩ := hr690.isSl; rw [e]; rfl
                have hr692 := (ho645.rd).okk (ok' := fun _ => True) (fun _ _ _ => trivial)
                have hc693 : v642.cells = #[v642] := by obtain ⟨A, c, e⟩ := hr692.isSl; rw [e]; rfl
                refine Dr.eff 15 _ _ rfl (by intro d h; cases h; exact ⟨rfl, rfl⟩) rfl rfl rfl (EC.of (by intro _ _ h; cases h) (.inl rfl) (WV.bsO (okx := fun _ => True) (K := (kR kI)) (l := ([([0, z541] : List Int), (z531.drop (1 : Int).toNat), (List.replicate (k2 - 1 : Int).toNat (0 : Int))] : List (List Int))) (css := [[v604], [v547], [v642]]) sl23 rfl rfl (by simp [Instr.fill, hc689, hc691, hc693, kR, rng1, rng2, rng3]) rfl (segs_cons ⟨_, rfl, hr688⟩ (segs_cons ⟨_, rfl, hr690⟩ (segs_cons ⟨_, rfl, hr692⟩ segs_nil))))) (fun v H' h => .inl (h.1)) ?_
                rintro v684 H685 ⟨hx686, ho687⟩
                have q695 := Nat.le_trans q646 hx686.bd
                have q696 := Nat.le_trans q647 hx686.bd
                have X697 := Ext.trans X648 hx686
                have X698 := Ext.trans X649 hx686
                have X699 := Ext.trans X650 hx686
                have X700 := Ext.trans X651 hx686
                have X701 := Ext.trans X652 hx686
                have X702 := Ext.trans X653 hx686
                have X703 := Ext.trans X654 hx686
                have X704 := Ext.trans X655 hx686
                have X705 := Ext.trans X665 hx686
                have ho706 := ho656.ext hx686
                have ho707 := ho657.ext hx686
                have ho708 := ho658.ext hx686
                have ho709 := ho645.ext hx686
                have hb710 := hb659.ext hx686
                have hb711 := hb660.ext hx686
                have hb712 := hb661.ext hx686
                have hb713 := hb662.ext hx686
                have hb714 := hb663.ext hx686
                have X715 := Ext.refl H685
                have hr694 := ho687.rd
                have y716 := hb710.lt
                have y717 := hb711.lt
                have y718 := hb712.lt
                have y719 := hb713.lt
                have y720 := hb714.lt
                have o721 := X697.bd
                have o722 := X698.bd
                have o723 := X699.bd
                have o724 := X700.bd
                have o725 := X701.bd
                have o726 := X702.bd
                have o727 := X703.bd
                have o728 := X704.bd
                have o729 := X705.bd
                have o730 := X715.bd
                have a731 := ho706.ltb
                have a732 := ho707.ltb
                have a733 := ho708.ltb
                have a734 := ho709.ltb
                refine Dr.eff 16 _ _ rfl (by intro d h; cases h; exact ⟨rfl, rfl⟩) rfl rfl rfl (EC.of (by intro _ _ h; cases h) (.inl rfl) (WV.call fn129 rfl (concat_ok hr694 (by simp) (fun x hx => by simp only [List.mem_cons, List.not_mem_nil, or_false] at hx; rcases hx with rfl | rfl | rfl <;> (simp; try omega))))) (fun v H' h => .inl (h.1)) ?_
                rintro v735 H736 ⟨hx737, ho738⟩
                have q739 := Nat.le_trans q695 hx737.bd
                have q740 := Nat.le_trans q696 hx737.bd
                have X741 := Ext.trans X697 hx737
                have X742 := Ext.trans X698 hx737
                have X743 := Ext.trans X699 hx737
                have X744 := Ext.trans X700 hx737
                have X745 := Ext.trans X701 hx737
                have X746 := Ext.trans X702 hx737
                have X747 := Ext.trans X703 hx737
                have X748 := Ext.trans X704 hx737
                have X749 := Ext.trans X705 hx737
                have X750 := Ext.trans X715 hx737
                have ho751 := ho706.ext hx737
                have ho752 := ho707.ext hx737
                have ho753 := ho708.ext hx737
                have ho754 := ho709.ext hx737
                have hb755 := hb710.ext hx737
                have hb756 := hb711.ext hx737
                have hb757 := hb712.ext hx737
                have hb758 := hb713.ext hx737
                have hb759 := hb714.ext hx737
                have X761 := Ext.refl H736
                have y762 := hb755.lt
                have y763 := hb756.lt
                have y764 := hb757.lt
                have y765 := hb758.lt
                have y766 := hb759.lt
                have o767 := X741.bd
                have o768 := X742.bd
                have o769 := X743.bd
                have o770 := X744.bd
                have o771 := X745.bd
                have o772 := X746.bd
                have o773 := X747.bd
                have o774 := X748.bd
                have o775 := X749.bd
                have o776 := X750.bd
                have o777 := X761.bd
                have a778 := ho751.ltb
                have a779 := ho752.ltb
                have a780 := ho738.ltb
                have hc785 : v735.cells = #[v735] := by obtain ⟨A, c, e⟩ := ho738.isSl; rw [e]; rfl
                refine Dr.eff 17 _ _ rfl (by intro d h; cases h; exact ⟨rfl, rfl⟩) rfl rfl rfl (EC.of (by intro _ _ h; cases h) (.inl rfl) (WV.bsO (okx := fun b => H685.bd ≤ b) (K := (kO 2 kI)) (l := ([(([([0, z541] : List Int), (z531.drop (1 : Int).toNat), (List.replicate (k2 - 1 : Int).toNat (0 : Int))] : List (List Int))).flatten] : List (List Int))) (css := [[v735]]) sl23 rfl rfl (by simp [Instr.fill, hc785, kO, rng1]) rfl (segs_cons ⟨_, rfl, ho738⟩ segs_nil))) (fun v H' h => .inl (h.1)) ?_
                rintro v781 H782 ⟨hx783, ho784⟩
                have q787 := Nat.le_trans q739 hx783.bd
                have q788 := Nat.le_trans q740 hx783.bd
                have X789 := Ext.trans X741 hx783
                have X790 := Ext.trans X742 hx783
                have X791 := Ext.trans X743 hx783
                have X792 := Ext.trans X744 hx783
                have X793 := Ext.trans X745 hx783
                have X794 := Ext.trans X746 hx783
                have X795 := Ext.trans X747 hx783
                have X796 := Ext.trans X748 hx783
                have X797 := Ext.trans X749 hx783
                have X798 := Ext.trans X750 hx783
                have X799 := Ext.trans X761 hx783
                have ho800 := ho751.ext hx783
                have ho801 := ho752.ext hx783
                have ho802 := ho738.ext hx783
                have hb803 := hb755.ext hx783
                have hb804 := hb756.ext hx783
                have hb805 := hb757.ext hx783
                have hb806 := hb758.ext hx783
                have hb807 := hb759.ext hx783
                have ho786 := ho784.okk (ok' := fun b => H685.bd ≤ b) (fun b hb _ => hb.elim id (fun e => Nat.le_trans X750.bd e))
                have X809 := Ext.refl H782
                refine Dr.eff 18 _ _ rfl (by intro d h; cases h; exact ⟨rfl, rfl⟩) rfl rfl rfl (EC.of (by intro _ _ h; cases h) (.inl rfl) (WV.apD (ok := fun b => H483.bd ≤ b) (B := H516.bd) sl23 rfl rfl ho800 (ho786.okk (ok' := fun b => H516.bd ≤ b) (fun b hb _ => Nat.le_trans o727 hb)).rd X795.bd (by first | (rw [mapR_len]; omega) | (rw [List.length_append, mapR_len, mapR_len]; omega)) (by first | (rw [mapR_len]; omega) | (rw [List.length_append, mapR_len, mapR_len]; omega)))) (fun v H' h => .inr (.inl rfl)) ?_
                rintro v810 H811 ⟨hx812, ho813, hb814⟩
                have ho815 := ho813.okk (ok' := fun b => H483.bd ≤ b) (fun b hb _ => hb.elim id (fun e => by have h1 : H516.bd ≤ b := e; omega))
                have q816 := Nat.le_trans q787 hx812.bd
                have q817 := Nat.le_trans q788 hx812.bd
                have X818 := Ext.thru X789 hx812 (fun b hb => Nat.le_trans o506 (ho800.blk b hb).1.1)
                have X819 := Ext.thru X790 hx812 (fun b hb => Nat.le_trans o507 (ho800.blk b hb).1.1)
                have X820 := Ext.thru X791 hx812 (fun b hb => Nat.le_trans o508 (ho800.blk b hb).1.1)
                have X821 := Ext.thru X792 hx812 (fun b hb => Nat.le_trans o509 (ho800.blk b hb).1.1)
                have X822 := Ext.thru X793 hx812 (fun b hb => Nat.le_trans o510 (ho800.blk b hb).1.1)
                have X823 := Ext.thru X794 hx812 (fun b hb => Nat.le_trans o511 (ho800.blk b hb).1.1)
                have q825 := Nat.le_trans X795.bd hx812.bd
                have q827 := Nat.le_trans X796.bd hx812.bd
                have q829 := Nat.le_trans X797.bd hx812.bd
                have q831 := Nat.le_trans X798.bd hx812.bd
                have q833 := Nat.le_trans X799.bd hx812.bd
                have q835 := Nat.le_trans X809.bd hx812.bd
                have ho836 := ho801.but hx812 (fun b hb _ e => by have h1 : (H119.bd ≤ b ∧ b ≠ b10) ∧ b < H1_.bd := hb; have h2 : H483.bd ≤ b := (ho800.blk b e).1.1; omega) (fun b hb => (ho800.blk b hb).2.2)
                have hb837 := hb803.but hx812 (fun e => by have q : H483.bd ≤ _ := (ho800.blk _ e).1.1; omega)
                have hb838 := hb804.but hx812 (fun e => by have q : H483.bd ≤ _ := (ho800.blk _ e).1.1; omega)
                have hb839 := hb805.but hx812 (fun e => by have q : H483.bd ≤ _ := (ho800.blk _ e).1.1; omega)
                have hb840 := hb806.but hx812 (fun e => by have q : H483.bd ≤ _ := (ho800.blk _ e).1.1; omega)
                have hb841 := hb807.but hx812 (fun e => by have q : H483.bd ≤ _ := (ho800.blk _ e).1.1; omega)
                refine Dr.read 19 _ 97 _ rfl rfl rfl rfl rfl (RV.of (by intro _ _ h; cases h) (.inl rfl) (fun _ xd => HV.fa fl31_2 rfl)) ?_
                refine Dr.read 20 _ 98 _ rfl rfl rfl rfl rfl (RV.of (by intro _ _ h; cases h) (.inl rfl) (fun _ xd => HV.fa fl29_2 rfl)) ?_
                refine Dr.eff 21 _ _ rfl (by intro d h; cases h) rfl rfl rfl (EC.of (by intro _ _ h; cases h) (.inl rfl) (WV.st rfl rfl va23 (sl_size (rd_ofO ho815.rd).isSl) hb841 (Nat.le_of_ble_eq_true rfl) (sl_one (rd_ofO ho815.rd).isSl))) (fun v H' h => .inr (.inl rfl)) ?_
                rintro _ H842 ⟨hx843, hb844⟩
                rw [sl_cells (rd_ofO ho815.rd).isSl] at hb844
                have q845 := Nat.le_trans q816 hx843.bd
                have q846 := Nat.le_trans q817 hx843.bd
                have q847 := Nat.le_trans q825 hx843.bd
                have q848 := Nat.le_trans q827 hx843.bd
                have q849 := Nat.le_trans q829 hx843.bd
                have q850 := Nat.le_trans q831 hx843.bd
                have q851 := Nat.le_trans q833 hx843.bd
                have q852 := Nat.le_trans q835 hx843.bd
                have X853 := Ext.thru X818 hx843 (fun z_ hz_ => by rw [hz_]; exact (Nat.le_trans o458 hib10))
                have X854 := Ext.thru X819 hx843 (fun z_ hz_ => by rw [hz_]; exact (Nat.le_trans o459 hib10))
                have X855 := Ext.thru X820 hx843 (fun z_ hz_ => by rw [hz_]; exact (Nat.le_trans o460 hib10))
                have X856 := Ext.thru X821 hx843 (fun z_ hz_ => by rw [hz_]; exact (Nat.le_trans o461 hib10))
                have X857 := Ext.thru X822 hx843 (fun z_ hz_ => by rw [hz_]; exact (Nat.le_trans o462 hib10))
                have X858 := Ext.thru X823 hx843 (fun z_ hz_ => by rw [hz_]; exact (Nat.le_trans o463 hib10))
                have ho859 := ho815.but hx843 (fun b hb _ e => by have hb' : H483.bd ≤ b := hb; have e' : b = b10 := e; omega) (fun z_ hz_ => by rw [hz_]; exact hb841.w)
                have ho860 := ho836.but hx843 (fun b hb _ e => by have hb' : (H119.bd ≤ b ∧ b ≠ b10) ∧ b < H1_.bd := hb; have e' : b = b10 := e; omega) (fun z_ hz_ => by rw [hz_]; exact hb841.w)
                have hb861 := hb837.but hx843 ne479
                have hb862 := hb838.but hx843 ne480
                have hb863 := hb839.but hx843 ne481
                have hb864 := hb840.but hx843 ne482
                have hb865 : At W H842 b10 ⟨31, [.int .i64 n, u1, .int .i64 p, .int .i64 (k + k2), v810], 5⟩ := hb844
                refine Dr.fin rfl ?_
                refine nrm_blk (nrm_and ?_)
                refine AW.reg ?_
                refine AL.val rfl (.inl rfl) (HV.add rfl rfl (by omega)) ?_
                refine AL.val rfl (.inl rfl) (HV.mv rfl) ?_
                refine AL.nil ?_
                refine nrm_and ?_
                exact ⟨(i + 1, v810), ⟨X853, X854, X855, X856, X857, X858, hb861, hb862, hb863, hb864, q845, q846, by omega, hb865, by rw [mapR_succ, show joA k2 l i = (([([0, z541] : List Int), (z531.drop (1 : Int).toNat), (List.replicate (k2 - 1 : Int).toNat (0 : Int))] : List (List Int))).flatten by unfold joA hdA; rw [q3, (gd hz543 rfl : z531.getD 0 0 = z541)]; simp]; exact ho859, ho860, trivial⟩, by first | omega | (dsimp only; omega), ⟨rfl, rfl, rfl, rfl, rfl, rfl, rfl, rfl, rfl, rfl, trivial⟩⟩
              · -- 14 first
                have y866 := hb523.lt
                have y867 := hb524.lt
                have y868 := hb525.lt
                have y869 := hb526.lt
                have y870 := hbBi.lt
                have o871 := X517.bd
                have o872 := X518.bd
                have o873 := X519.bd
                have o874 := X520.bd
                have o875 := X521.bd
                have o876 := X522.bd
                have o877 := X550.bd
                have a878 := hoLi.ltb
                have ho879 := hoLi.okk (ok' := fun b => H483.bd ≤ b ∧ b < H516.bd) (fun b hb hlt => ⟨hb, hlt⟩)
                have a880 := hoUi.ltb
                rintro v881 H882 ⟨hx883, ho884⟩
                have q885 := Nat.le_trans q527 hx883.bd
                have q886 := Nat.le_trans q528 hx883.bd
                have X887 := Ext.trans X517 hx883
                have X888 := Ext.trans X518 hx883
                have X889 := Ext.trans X519 hx883
                have X890 := Ext.trans X520 hx883
                have X891 := Ext.trans X521 hx883
                have X892 := Ext.trans X522 hx883
                have X893 := Ext.trans X550 hx883
                have ho894 := ho879.ext hx883
                have ho895 := hoUi.ext hx883
                have hb896 := hb523.ext hx883
                have hb897 := hb524.ext hx883
                have hb898 := hb525.ext hx883
                have hb899 := hb526.ext hx883
                have hb900 := hbBi.ext hx883
                have X902 := Ext.refl H882
                have y903 := hb896.lt
                have y904 := hb897.lt
                have y905 := hb898.lt
                have y906 := hb899.lt
                have y907 := hb900.lt
                have o908 := X887.bd
                have o909 := X888.bd
                have o910 := X889.bd
                have o911 := X890.bd
                have o912 := X891.bd
                have o913 := X892.bd
                have o914 := X893.bd
                have o915 := X902.bd
                have a916 := ho894.ltb
                have a917 := ho895.ltb
                have a918 := ho884.ltb
                refine Dr.eff 7 _ _ rfl (by intro d h; cases h; exact ⟨rfl, rfl⟩) rfl rfl rfl (EC.of (by intro _ _ h; cases h) (.inl rfl) (WV.callv fn64 rfl rfl (one_ok (W := W) z541))) (fun v H' h => .inl (h.1)) ?_
                rintro v919 H920 ⟨hx921, ho922⟩
                have q923 := Nat.le_trans q885 hx921.bd
                have q924 := Nat.le_trans q886 hx921.bd
                have X925 := Ext.trans X887 hx921
                have X926 := Ext.trans X888 hx921
                have X927 := Ext.trans X889 hx921
                have X928 := Ext.trans X890 hx921
                have X929 := Ext.trans X891 hx921
                have X930 := Ext.trans X892 hx921
                have X931 := Ext.trans X893 hx921
                have X932 := Ext.trans X902 hx921
                have ho933 := ho894.ext hx921
                have ho934 := ho895.ext hx921
                have ho935 := ho884.ext hx921
                have hb936 := hb896.ext hx921
                have hb937 := hb897.ext hx921
                have hb938 := hb898.ext hx921
                have hb939 := hb899.ext hx921
                have hb940 := hb900.ext hx921
                have X942 := Ext.refl H920
                have y943 := hb936.lt
                have y944 := hb937.lt
                have y945 := hb938.lt
                have y946 := hb939.lt
                have y947 := hb940.lt
                have o948 := X925.bd
                have o949 := X926.bd
                have o950 := X927.bd
                have o951 := X928.bd
                have o952 := X929.bd
                have o953 := X930.bd
                have o954 := X931.bd
                have o955 := X932.bd
                have o956 := X942.bd
                have a957 := ho933.ltb
                have a958 := ho934.ltb
                have a959 := ho935.ltb
                have a960 := ho922.ltb
                have hr965 := (ho922.rd).okk (ok' := fun _ => True) (fun _ _ _ => trivial)
                have hc966 : v919.cells = #[v919] := by obtain ⟨A, c, e⟩ := hr965.isSl; rw [e]; rfl
                have hr967 := ((hr548.ext X925)).okk (ok' := fun _ => True) (fun _ _ _ => trivial)
                have hc968 : v547.cells = #[v547] := by obtain ⟨A, c, e⟩ := hr967.isSl; rw [e]; rfl
                have hr969 := (ho935.rd).okk (ok' := fun _ => True) (fun _ _ _ => trivial)
                have hc970 : v881.cells = #[v881] := by obtain ⟨A, c, e⟩ := hr969.isSl; rw [e]; rfl
                refine Dr.eff 15 _ _ rfl (by intro d h; cases h; exact ⟨rfl, rfl⟩) rfl rfl rfl (EC.of (by intro _ _ h; cases h) (.inl rfl) (WV.bsO (okx := fun _ => True) (K := (kR kI)) (l := ([([0, z541] : List Int), (z531.drop (1 : Int).toNat), (List.replicate (k2 - 1 : Int).toNat (0 : Int))] : List (List Int))) (css := [[v919], [v547], [v881]]) sl23 rfl rfl (by simp [Instr.fill, hc966, hc968, hc970, kR, rng1, rng2, rng3]) rfl (segs_cons ⟨_, rfl, hr965⟩ (segs_cons ⟨_, rfl, hr967⟩ (segs_cons ⟨_, rfl, hr969⟩ segs_nil))))) (fun v H' h => .inl (h.1)) ?_
                rintro v961 H962 ⟨hx963, ho964⟩
                have q972 := Nat.le_trans q923 hx963.bd
                have q973 := Nat.le_trans q924 hx963.bd
                have X974 := Ext.trans X925 hx963
                have X975 := Ext.trans X926 hx963
                have X976 := Ext.trans X927 hx963
                have X977 := Ext.trans X928 hx963
                have X978 := Ext.trans X929 hx963
                have X979 := Ext.trans X930 hx963
                have X980 := Ext.trans X931 hx963
                have X981 := Ext.trans X932 hx963
                have X982 := Ext.trans X942 hx963
                have ho983 := ho933.ext hx963
                have ho984 := ho934.ext hx963
                have ho985 := ho935.ext hx963
                have ho986 := ho922.ext hx963
                have hb987 := hb936.ext hx963
                have hb988 := hb937.ext hx963
                have hb989 := hb938.ext hx963
                have hb990 := hb939.ext hx963
                have hb991 := hb940.ext hx963
                have X992 := Ext.refl H962
                have hr971 := ho964.rd
                have y993 := hb987.lt
                have y994 := hb988.lt
                have y995 := hb989.lt
                have y996 := hb990.lt
                have y997 := hb991.lt
                have o998 := X974.bd
                have o999 := X975.bd
                have o1000 := X976.bd
                have o1001 := X977.bd
                have o1002 := X978.bd
                have o1003 := X979.bd
                have o1004 := X980.bd
                have o1005 := X981.bd
                have o1006 := X982.bd
                have o1007 := X992.bd
                have a1008 := ho983.ltb
                have a1009 := ho984.ltb
                have a1010 := ho985.ltb
                have a1011 := ho986.ltb
                refine Dr.eff 16 _ _ rfl (by intro d h; cases h; exact ⟨rfl, rfl⟩) rfl rfl rfl (EC.of (by intro _ _ h; cases h) (.inl rfl) (WV.call fn129 rfl (concat_ok hr971 (by simp) (fun x hx => by simp only [List.mem_cons, List.not_mem_nil, or_false] at hx; rcases hx with rfl | rfl | rfl <;> (simp; try omega))))) (fun v H' h => .inl (h.1)) ?_
                rintro v1012 H1013 ⟨hx1014, ho1015⟩
                have q1016 := Nat.le_trans q972 hx1014.bd
                have q1017 := Nat.le_trans q973 hx1014.bd
                have X1018 := Ext.trans X974 hx1014
                have X1019 := Ext.trans X975 hx1014
                have X1020 := Ext.trans X976 hx1014
                have X1021 := Ext.trans X977 hx1014
                have X1022 := Ext.trans X978 hx1014
                have X1023 := Ext.trans X979 hx1014
                have X1024 := Ext.trans X980 hx1014
                have X1025 := Ext.trans X981 hx1014
                have X1026 := Ext.trans X982 hx1014
                have X1027 := Ext.trans X992 hx1014
                have ho1028 := ho983.ext hx1014
                have ho1029 := ho984.ext hx1014
                have ho1030 := ho985.ext hx1014
                have ho1031 := ho986.ext hx1014
                have hb1032 := hb987.ext hx1014
                have hb1033 := hb988.ext hx1014
                have hb1034 := hb989.ext hx1014
                have hb1035 := hb990.ext hx1014
                have hb1036 := hb991.ext hx1014
                have X1038 := Ext.refl H1013
                have y1039 := hb1032.lt
                have y1040 := hb1033.lt
                have y1041 := hb1034.lt
                have y1042 := hb1035.lt
                have y1043 := hb1036.lt
                have o1044 := X1018.bd
                have o1045 := X1019.bd
                have o1046 := X1020.bd
                have o1047 := X1021.bd
                have o1048 := X1022.bd
                have o1049 := X1023.bd
                have o1050 := X1024.bd
                have o1051 := X1025.bd
                have o1052 := X1026.bd
                have o1053 := X1027.bd
                have o1054 := X1038.bd
                have a1055 := ho1028.ltb
                have a1056 := ho1029.ltb
                have a1057 := ho1015.ltb
                have hc1062 : v1012.cells = #[v1012] := by obtain ⟨A, c, e⟩ := ho1015.isSl; rw [e]; rfl
                refine Dr.eff 17 _ _ rfl (by intro d h; cases h; exact ⟨rfl, rfl⟩) rfl rfl rfl (EC.of (by intro _ _ h; cases h) (.inl rfl) (WV.bsO (okx := fun b => H962.bd ≤ b) (K := (kO 2 kI)) (l := ([(([([0, z541] : List Int), (z531.drop (1 : Int).toNat), (List.replicate (k2 - 1 : Int).toNat (0 : Int))] : List (List Int))).flatten] : List (List Int))) (css := [[v1012]]) sl23 rfl rfl (by simp [Instr.fill, hc1062, kO, rng1]) rfl (segs_cons ⟨_, rfl, ho1015⟩ segs_nil))) (fun v H' h => .inl (h.1)) ?_
                rintro v1058 H1059 ⟨hx1060, ho1061⟩
                have q1064 := Nat.le_trans q1016 hx1060.bd
                have q1065 := Nat.le_trans q1017 hx1060.bd
                have X1066 := Ext.trans X1018 hx1060
                have X1067 := Ext.trans X1019 hx1060
                have X1068 := Ext.trans X1020 hx1060
                have X1069 := Ext.trans X1021 hx1060
                have X1070 := Ext.trans X1022 hx1060
                have X1071 := Ext.trans X1023 hx1060
                have X1072 := Ext.trans X1024 hx1060
                have X1073 := Ext.trans X1025 hx1060
                have X1074 := Ext.trans X1026 hx1060
                have X1075 := Ext.trans X1027 hx1060
                have X1076 := Ext.trans X1038 hx1060
                have ho1077 := ho1028.ext hx1060
                have ho1078 := ho1029.ext hx1060
                have ho1079 := ho1015.ext hx1060
                have hb1080 := hb1032.ext hx1060
                have hb1081 := hb1033.ext hx1060
                have hb1082 := hb1034.ext hx1060
                have hb1083 := hb1035.ext hx1060
                have hb1084 := hb1036.ext hx1060
                have ho1063 := ho1061.okk (ok' := fun b => H962.bd ≤ b) (fun b hb _ => hb.elim id (fun e => Nat.le_trans X1027.bd e))
                have X1086 := Ext.refl H1059
                refine Dr.eff 18 _ _ rfl (by intro d h; cases h; exact ⟨rfl, rfl⟩) rfl rfl rfl (EC.of (by intro _ _ h; cases h) (.inl rfl) (WV.apD (ok := fun b => H483.bd ≤ b) (B := H516.bd) sl23 rfl rfl ho1077 (ho1063.okk (ok' := fun b => H516.bd ≤ b) (fun b hb _ => Nat.le_trans o1004 hb)).rd X1072.bd (by first | (rw [mapR_len]; omega) | (rw [List.length_append, mapR_len, mapR_len]; omega)) (by first | (rw [mapR_len]; omega) | (rw [List.length_append, mapR_len, mapR_len]; omega)))) (fun v H' h => .inr (.inl rfl)) ?_
                rintro v1087 H1088 ⟨hx1089, ho1090, hb1091⟩
                have ho1092 := ho1090.okk (ok' := fun b => H483.bd ≤ b) (fun b hb _ => hb.elim id (fun e => by have h1 : H516.bd ≤ b := e; omega))
                have q1093 := Nat.le_trans q1064 hx1089.bd
                have q1094 := Nat.le_trans q1065 hx1089.bd
                have X1095 := Ext.thru X1066 hx1089 (fun b hb => Nat.le_trans o506 (ho1077.blk b hb).1.1)
                have X1096 := Ext.thru X1067 hx1089 (fun b hb => Nat.le_trans o507 (ho1077.blk b hb).1.1)
                have X1097 := Ext.thru X1068 hx1089 (fun b hb => Nat.le_trans o508 (ho1077.blk b hb).1.1)
                have X1098 := Ext.thru X1069 hx1089 (fun b hb => Nat.le_trans o509 (ho1077.blk b hb).1.1)
                have X1099 := Ext.thru X1070 hx1089 (fun b hb => Nat.le_trans o510 (ho1077.blk b hb).1.1)
                have X1100 := Ext.thru X1071 hx1089 (fun b hb => Nat.le_trans o511 (ho1077.blk b hb).1.1)
                have q1102 := Nat.le_trans X1072.bd hx1089.bd
                have q1104 := Nat.le_trans X1073.bd hx1089.bd
                have q1106 := Nat.le_trans X1074.bd hx1089.bd
                have q1108 := Nat.le_trans X1075.bd hx1089.bd
                have q1110 := Nat.le_trans X1076.bd hx1089.bd
                have q1112 := Nat.le_trans X1086.bd hx1089.bd
                have ho1113 := ho1078.but hx1089 (fun b hb _ e => by have h1 : (H119.bd ≤ b ∧ b ≠ b10) ∧ b < H1_.bd := hb; have h2 : H483.bd ≤ b := (ho1077.blk b e).1.1; omega) (fun b hb => (ho1077.blk b hb).2.2)
                have hb1114 := hb1080.but hx1089 (fun e => by have q : H483.bd ≤ _ := (ho1077.blk _ e).1.1; omega)
                have hb1115 := hb1081.but hx1089 (fun e => by have q : H483.bd ≤ _ := (ho1077.blk _ e).1.1; omega)
                have hb1116 := hb1082.but hx1089 (fun e => by have q : H483.bd ≤ _ := (ho1077.blk _ e).1.1; omega)
                have hb1117 := hb1083.but hx1089 (fun e => by have q : H483.bd ≤ _ := (ho1077.blk _ e).1.1; omega)
                have hb1118 := hb1084.but hx1089 (fun e => by have q : H483.bd ≤ _ := (ho1077.blk _ e).1.1; omega)
                refine Dr.read 19 _ 97 _ rfl rfl rfl rfl rfl (RV.of (by intro _ _ h; cases h) (.inl rfl) (fun _ xd => HV.fa fl31_2 rfl)) ?_
                refine Dr.read 20 _ 98 _ rfl rfl rfl rfl rfl (RV.of (by intro _ _ h; cases h) (.inl rfl) (fun _ xd => HV.fa fl29_2 rfl)) ?_
                refine Dr.eff 21 _ _ rfl (by intro d h; cases h) rfl rfl rfl (EC.of (by intro _ _ h; cases h) (.inl rfl) (WV.st rfl rfl va23 (sl_size (rd_ofO ho1092.rd).isSl) hb1118 (Nat.le_of_ble_eq_true rfl) (sl_one (rd_ofO ho1092.rd).isSl))) (fun v H' h => .inr (.inl rfl)) ?_
                rintro _ H1119 ⟨hx1120, hb1121⟩
                rw [sl_cells (rd_ofO ho1092.rd).isSl] at hb1121
                have q1122 := Nat.le_trans q1093 hx1120.bd
                have q1123 := Nat.le_trans q1094 hx1120.bd
                have q1124 := Nat.le_trans q1102 hx1120.bd
                have q1125 := Nat.le_trans q1104 hx1120.bd
                have q1126 := Nat.le_trans q1106 hx1120.bd
                have q1127 := Nat.le_trans q1108 hx1120.bd
                have q1128 := Nat.le_trans q1110 hx1120.bd
                have q1129 := Nat.le_trans q1112 hx1120.bd
                have X1130 := Ext.thru X1095 hx1120 (fun z_ hz_ => by rw [hz_]; exact (Nat.le_trans o458 hib10))
                have X1131 := Ext.thru X1096 hx1120 (fun z_ hz_ => by rw [hz_]; exact (Nat.le_trans o459 hib10))
                have X1132 := Ext.thru X1097 hx1120 (fun z_ hz_ => by rw [hz_]; exact (Nat.le_trans o460 hib10))
                have X1133 := Ext.thru X1098 hx1120 (fun z_ hz_ => by rw [hz_]; exact (Nat.le_trans o461 hib10))
                have X1134 := Ext.thru X1099 hx1120 (fun z_ hz_ => by rw [hz_]; exact (Nat.le_trans o462 hib10))
                have X1135 := Ext.thru X1100 hx1120 (fun z_ hz_ => by rw [hz_]; exact (Nat.le_trans o463 hib10))
                have ho1136 := ho1092.but hx1120 (fun b hb _ e => by have hb' : H483.bd ≤ b := hb; have e' : b = b10 := e; omega) (fun z_ hz_ => by rw [hz_]; exact hb1118.w)
                have ho1137 := ho1113.but hx1120 (fun b hb _ e => by have hb' : (H119.bd ≤ b ∧ b ≠ b10) ∧ b < H1_.bd := hb; have e' : b = b10 := e; omega) (fun z_ hz_ => by rw [hz_]; exact hb1118.w)
                have hb1138 := hb1114.but hx1120 ne479
                have hb1139 := hb1115.but hx1120 ne480
                have hb1140 := hb1116.but hx1120 ne481
                have hb1141 := hb1117.but hx1120 ne482
                have hb1142 : At W H1119 b10 ⟨31, [.int .i64 n, u1, .int .i64 p, .int .i64 (k + k2), v1087], 5⟩ := hb1121
                refine Dr.fin rfl ?_
                refine nrm_blk (nrm_and ?_)
                refine AW.reg ?_
                refine AL.val rfl (.inl rfl) (HV.add rfl rfl (by omega)) ?_
                refine AL.val rfl (.inl rfl) (HV.mv rfl) ?_
                refine AL.nil ?_
                refine nrm_and ?_
                exact ⟨(i + 1, v1087), ⟨X1130, X1131, X1132, X1133, X1134, X1135, hb1138, hb1139, hb1140, hb1141, q1122, q1123, by omega, hb1142, by rw [mapR_succ, show joA k2 l i = (([([0, z541] : List Int), (z531.drop (1 : Int).toNat), (List.replicate (k2 - 1 : Int).toNat (0 : Int))] : List (List Int))).flatten by unfold joA hdA; rw [q3, (gd hz543 rfl : z531.getD 0 0 = z541)]; simp]; exact ho1136, ho1137, trivial⟩, by first | omega | (dsimp only; omega), ⟨rfl, rfl, rfl, rfl, rfl, rfl, rfl, rfl, rfl, rfl, trivial⟩⟩
            · -- else
              refine AW.exit ?_
              refine ex_and (ex_and (ex_blk ?_))
              refine nrm_and ?_
              refine AW.seq ?_
              refine AW.rs ?_
              refine AL.val rfl (.inl rfl) (HV.fa fl31_2 rfl) ?_
              refine AL.val rfl (.inl rfl) (HV.fa fl29_2 rfl) ?_
              refine AL.val rfl (.inl rfl) (HV.ld rfl va23 (at_cell_add (j := 4) hb525 rfl)) ?_
              refine AL.val rfl (.inl rfl) (HV.len Try.underlying23 rfl hr2.isSl) ?_
              refine AL.val rfl (.inl rfl) (HV.mv rfl) ?_
              refine AL.nx ?_
              refine AW.block ?_
              refine AW.loop (σ := Nat × Value) (fun ⟨j, ww⟩ => [(3, (.func (.func 65) #[] #[.pointer (some ⟨b, 0, none⟩)])), (4, .pointer (some ⟨b5, 0, none⟩)), (8, .pointer (some ⟨b29, 0, none⟩)), (9, .int .i64 0), (11, .pointer (some ⟨b10, 0, none⟩)), (102, v2), (103, .int .i64 (l2.length : Int)), (104, .int .i64 (j : Int))]) (fun ⟨j, ww⟩ H' => Ext H H' ∧ Ext H6 H' ∧ Ext H16 H' ∧ Ext H30 H' ∧ Ext H58 H' ∧ Ext H119 H' ∧ At W H' b ⟨2, [.int .i64 p], 1⟩ ∧ At W H' b5 ⟨31, [.int .i64 n, vo, .int .i64 p, .int .i64 k, v], 5⟩ ∧ At W H' b15 ⟨31, [.int .i64 n2, vo2, .int .i64 p2, .int .i64 k2, v2], 5⟩ ∧ At W H' b29 ⟨31, [.int .i64 0, (.slice none 0 0), .int .i64 0, .int .i64 0, (.slice none 0 0)], 5⟩ ∧ H483.bd ≤ H'.bd ∧ H1_.bd ≤ H'.bd ∧ j ≤ l2.length ∧ At W H' b10 ⟨31, [.int .i64 n, u1, .int .i64 p, .int .i64 (k + k2), ww], 5⟩ ∧ OwnD (kO 2 kI) 22 W H' (fun b => H483.bd ≤ b) ww (mapR (joA k2 l) l.length ++ mapR (joB p k l2) j) ∧ OwnK kI 2 W H' (fun b => (H119.bd ≤ b ∧ b ≠ b10) ∧ b < H1_.bd) u1 (o ++ o2) ∧ True) (fun ⟨j, ww⟩ => l2.length - j) (0, vv) ⟨X517, X518, X519, X520, X521, X522, hb523, hb524, hb525, hb526, q527, q528, Nat.zero_le _, hbBi, by rw [show mapR (joB p k l2) 0 = [] from rfl, List.append_nil, show l.length = i by omega]; exact hoLi, hoUi, trivial⟩ ⟨rfl, rfl, rfl, rfl, rfl, rfl, rfl, rfl, trivial⟩ ?_
              rintro ⟨j, ww⟩ H1143 ⟨X1144, X1145, X1146, X1147, X1148, X1149, hb1150, hb1151, hb1152, hb1153, q1154, q1155, hj, hbBj, hoLj, hoUj, _⟩
              refine AW.rs ?_
              refine AL.val rfl (.inl rfl) (HV.lti rfl rfl) ?_
              refine AL.nx ?_
              refine AW.seq ?_
              refine AW.ifd rfl (fun c1156 => ?_) (fun c1156 => ?_)
              · -- then
                refine AW.skip ?_
                refine nrm_and ?_
                refine AW.seq ?_
                refine AW.block ?_
                refine AW.rs ?_
                obtain ⟨p1157, z1158, cs1159, hz1160, hK1161, hC1162, hP1163⟩ := RdK.ix (q := (j : Int)) hr2 sl23 (by omega) (by omega)
                obtain ⟨v1164, rfl, hr1165⟩ := hK1161
                have hm1166 := hr1165.max
                refine AL.val rfl (.inl rfl) (hP1163 rfl rfl) ?_
                refine AL.val rfl (.inl rfl) (HV.ld rfl va22 (cells_first (hC1162.ext X1144) rfl)) ?_
                have q1 := rect_at hG.r hz1160
                have q2 := q1.1
                have q3 : l2.getD j [] = z1158 := gd hz1160 rfl
                refine AL.val rfl (.inl rfl) (HV.as rfl) ?_
                refine AL.nx ?_
                refine AW.draw' [0, 1, 3, 0, 0, 16, 48, 120, 0, 256, 768, 1792, 3840, 0, 8192, 32760, 65528, 131064, 262143, 524287, 1048575, 2097151] mixed (by rfl) ?_
                refine Dr.read 0 _ 108 _ rfl rfl rfl rfl rfl (RV.of (by intro _ _ h; cases h) (.inl rfl) (fun _ xd => HV.fa fl31_2 rfl)) ?_
                refine Dr.read 1 _ 109 _ rfl rfl rfl rfl rfl (RV.of (by intro _ _ h; cases h) (.inl rfl) (fun _ xd => HV.fa fl29_2 rfl)) ?_
                refine Dr.read 2 _ 110 _ rfl rfl rfl rfl rfl (RV.of (by intro _ _ h; cases h) (.inl rfl) (fun _ xd => HV.ld rfl va23 (rdc_ext xd (at_cell_add (j := 4) hbBj rfl)))) ?_
                refine Dr.read 3 _ 111 _ rfl rfl rfl rfl rfl (RV.of (by intro _ _ h; cases h) (.inl rfl) (fun _ xd => HV.mv rfl)) ?_
                refine Dr.read 4 _ 112 _ rfl rfl rfl rfl rfl (RV.of (by intro _ _ h; cases h) (.inl rfl) (fun _ xd => HV.mv rfl)) ?_
                obtain ⟨p1167, z1168, cs1169, hz1170, hK1171, hC1172, hP1173⟩ := RdK.ix (q := 0) hr1165 sl22 (by omega) (by omega)
                obtain rfl : cs1169 = [.int .i64 z1168] := hK1171
                refine Dr.read 5 _ 113 _ rfl rfl rfl rfl rfl (RV.of (by intro _ _ h; cases h) (.inl rfl) (fun _ xd => hP1173 rfl rfl)) ?_
                refine Dr.read 6 _ 114 _ rfl rfl rfl rfl rfl (RV.of (by intro _ _ h; cases h) (.inl rfl) (fun _ xd => HV.ld rfl va2 (rdc_ext xd (cells_first (hC1172.ext X1144) rfl)))) ?_
                refine Dr.read 8 _ 116 _ rfl rfl rfl rfl rfl (RV.of (by intro _ _ h; cases h) (.inl rfl) (fun _ xd => HV.fa fl31_2 rfl)) ?_
                refine Dr.read 9 _ 117 _ rfl rfl rfl rfl rfl (RV.of (by intro _ _ h; cases h) (.inl rfl) (fun _ xd => HV.fa fl29_1 rfl)) ?_
                refine Dr.read 10 _ 118 _ rfl rfl rfl rfl rfl (RV.of (by intro _ _ h; cases h) (.inl rfl) (fun _ xd => HV.ld rfl va2 (rdc_ext xd (at_cell_add (j := 3) hb1151 rfl)))) ?_
                refine Dr.read 11 _ 119 _ rfl rfl rfl rfl rfl (RV.of (by intro _ _ h; cases h) (.inl rfl) (fun _ xd => HV.sub rfl rfl (by omega))) ?_
                refine Dr.read 13 _ 121 _ rfl rfl rfl rfl rfl (RV.of (by intro _ _ h; cases h) (.inl rfl) (fun _ xd => HV.mv rfl)) ?_
                have X1177 := Ext.refl H1143
                obtain ⟨v1174, hr1175, hP1176⟩ := RdK.cutL (q := 1) hr1165 sl22 (by decide) (by omega)
                refine Dr.read 14 _ 122 _ rfl rfl rfl rfl rfl (RV.of (by intro _ _ h; cases h) (.inl rfl) (fun _ xd => hP1176 rfl rfl)) ?_
                have y1178 := hb1150.lt
                have y1179 := hb1151.lt
                have y1180 := hb1152.lt
                have y1181 := hb1153.lt
                have y1182 := hbBj.lt
                have o1183 := X1144.bd
                have o1184 := X1145.bd
                have o1185 := X1146.bd
                have o1186 := X1147.bd
                have o1187 := X1148.bd
                have o1188 := X1149.bd
                have o1189 := X1177.bd
                have a1190 := hoLj.ltb
                have ho1191 := hoLj.okk (ok' := fun b => H483.bd ≤ b ∧ b < H1143.bd) (fun b hb hlt => ⟨hb, hlt⟩)
                have a1192 := hoUj.ltb
                have y1197 := hb1150.lt
                have y1198 := hb1151.lt
                have y1199 := hb1152.lt
                have y1200 := hb1153.lt
                have y1201 := hbBj.lt
                have o1202 := X1144.bd
                have o1203 := X1145.bd
                have o1204 := X1146.bd
                have o1205 := X1147.bd
                have o1206 := X1148.bd
                have o1207 := X1149.bd
                have o1208 := X1177.bd
                have a1209 := hoLj.ltb
                have ho1210 := hoLj.okk (ok' := fun b => H483.bd ≤ b ∧ b < H1143.bd) (fun b hb hlt => ⟨hb, hlt⟩)
                have a1211 := hoUj.ltb
                refine Dr.eff2 7 12 _ _ _ _  rfl rfl  (by intro d h; cases h; exact ⟨rfl, rfl⟩) (by intro d h; cases h; exact ⟨rfl, rfl⟩) rfl rfl  rfl rfl rfl  (EC.of (by intro _ _ h; cases h) (.inl rfl) (WV.callv fn65 rfl rfl (two_ok z1168 hp (by have := elem_at q1.2 hz1170; omega) hb1150))) (EC.of (by intro _ _ h; cases h) (.inl rfl) (WV.mkK (K := kI) (0 : Int) (fun _ _ _ => rfl) sl22 rfl rfl rfl (by omega) (by omega) (by omega))) (fun v H' h => .inl (h.1)) (fun v H' h => .inl (h.1)) ?_ ?_ 
                · -- 7 first
                  have y1216 := hb1150.lt
                  have y1217 := hb1151.lt
                  have y1218 := hb1152.lt
                  have y1219 := hb1153.lt
                  have y1220 := hbBj.lt
                  have o1221 := X1144.bd
                  have o1222 := X1145.bd
                  have o1223 := X1146.bd
                  have o1224 := X1147.bd
                  have o1225 := X1148.bd
                  have o1226 := X1149.bd
                  have o1227 := X1177.bd
                  have a1228 := hoLj.ltb
                  have ho1229 := hoLj.okk (ok' := fun b => H483.bd ≤ b ∧ b < H1143.bd) (fun b hb hlt => ⟨hb, hlt⟩)
                  have a1230 := hoUj.ltb
                  rintro v1231 H1232 ⟨hx1233, ho1234⟩
                  have q1235 := Nat.le_trans q1154 hx1233.bd
                  have q1236 := Nat.le_trans q1155 hx1233.bd
                  have X1237 := Ext.trans X1144 hx1233
                  have X1238 := Ext.trans X1145 hx1233
                  have X1239 := Ext.trans X1146 hx1233
                  have X1240 := Ext.trans X1147 hx1233
                  have X1241 := Ext.trans X1148 hx1233
                  have X1242 := Ext.trans X1149 hx1233
                  have X1243 := Ext.trans X1177 hx1233
                  have ho1244 := ho1229.ext hx1233
                  have ho1245 := hoUj.ext hx1233
                  have hb1246 := hb1150.ext hx1233
                  have hb1247 := hb1151.ext hx1233
                  have hb1248 := hb1152.ext hx1233
                  have hb1249 := hb1153.ext hx1233
                  have hb1250 := hbBj.ext hx1233
                  have X1252 := Ext.refl H1232
                  have y1253 := hb1246.lt
                  have y1254 := hb1247.lt
                  have y1255 := hb1248.lt
                  have y1256 := hb1249.lt
                  have y1257 := hb1250.lt
                  have o1258 := X1237.bd
                  have o1259 := X1238.bd
                  have o1260 := X1239.bd
                  have o1261 := X1240.bd
                  have o1262 := X1241.bd
                  have o1263 := X1242.bd
                  have o1264 := X1243.bd
                  have o1265 := X1252.bd
                  have a1266 := ho1244.ltb
                  have a1267 := ho1245.ltb
                  have a1268 := ho1234.ltb
                  refine Dr.eff 12 _ _ rfl (by intro d h; cases h; exact ⟨rfl, rfl⟩) rfl rfl rfl (EC.of (by intro _ _ h; cases h) (.inl rfl) (WV.mkK (K := kI) (0 : Int) (fun _ _ _ => rfl) sl22 rfl rfl rfl (by omega) (by omega) (by omega))) (fun v H' h => .inl (h.1)) ?_
                  rintro v1269 H1270 ⟨hx1271, ho1272⟩
                  have q1273 := Nat.le_trans q1235 hx1271.bd
                  have q1274 := Nat.le_trans q1236 hx1271.bd
                  have X1275 := Ext.trans X1237 hx1271
                  have X1276 := Ext.trans X1238 hx1271
                  have X1277 := Ext.trans X1239 hx1271
                  have X1278 := Ext.trans X1240 hx1271
                  have X1279 := Ext.trans X1241 hx1271
                  have X1280 := Ext.trans X1242 hx1271
                  have X1281 := Ext.trans X1243 hx1271
                  have X1282 := Ext.trans X1252 hx1271
                  have ho1283 := ho1244.ext hx1271
                  have ho1284 := ho1245.ext hx1271
                  have ho1285 := ho1234.ext hx1271
                  have hb1286 := hb1246.ext hx1271
                  have hb1287 := hb1247.ext hx1271
                  have hb1288 := hb1248.ext hx1271
                  have hb1289 := hb1249.ext hx1271
                  have hb1290 := hb1250.ext hx1271
                  have X1292 := Ext.refl H1270
                  have y1293 := hb1286.lt
                  have y1294 := hb1287.lt
                  have y1295 := hb1288.lt
                  have y1296 := hb1289.lt
                  have y1297 := hb1290.lt
                  have o1298 := X1275.bd
                  have o1299 := X1276.bd
                  have o1300 := X1277.bd
                  have o1301 := X1278.bd
                  have o1302 := X1279.bd
                  have o1303 := X1280.bd
                  have o1304 := X1281.bd
                  have o1305 := X1282.bd
                  have o1306 := X1292.bd
                  have a1307 := ho1283.ltb
                  have a1308 := ho1284.ltb
                  have a1309 := ho1285.ltb
                  have a1310 := ho1272.ltb
                  have hr1315 := (ho1285.rd).okk (ok' := fun _ => True) (fun _ _ _ => trivial)
                  have hc1316 : v1231.cells = #[v1231] := by obtain ⟨A, c, e⟩ := hr1315.isSl; rw [e]; rfl
                  have hr1317 := (ho1272.rd).okk (ok' := fun _ => True) (fun _ _ _ => trivial)
                  have hc1318 : v1269.cells = #[v1269] := by obtain ⟨A, c, e⟩ := hr1317.isSl; rw [e]; rfl
                  have hr1319 := ((hr1175.ext X1275)).okk (ok' := fun _ => True) (fun _ _ _ => trivial)
                  have hc1320 : v1174.cells = #[v1174] := by obtain ⟨A, c, e⟩ := hr1319.isSl; rw [e]; rfl
                  refine Dr.eff 15 _ _ rfl (by intro d h; cases h; exact ⟨rfl, rfl⟩) rfl rfl rfl (EC.of (by intro _ _ h; cases h) (.inl rfl) (WV.bsO (okx := fun _ => True) (K := (kR kI)) (l := ([([z1168, (p - z1168) % p] : List Int), (List.replicate (k - 1 : Int).toNat (0 : Int)), (z1158.drop (1 : Int).toNat)] : List (List Int))) (css := [[v1231], [v1269], [v1174]]) sl23 rfl rfl (by simp [Instr.fill, hc1316, hc1318, hc1320, kR, rng1, rng2, rng3]) rfl (segs_cons ⟨_, rfl, hr1315⟩ (segs_cons ⟨_, rfl, hr1317⟩ (segs_cons ⟨_, rfl, hr1319⟩ segs_nil))))) (fun v H' h => .inl (h.1)) ?_
                  rintro v1311 H1312 ⟨hx1313, ho1314⟩
                  have q1322 := Nat.le_trans q1273 hx1313.bd
                  have q1323 := Nat.le_trans q1274 hx1313.bd
                  have X1324 := Ext.trans X1275 hx1313
                  have X1325 := Ext.trans X1276 hx1313
                  have X1326 := Ext.trans X1277 hx1313
                  have X1327 := Ext.trans X1278 hx1313
                  have X1328 := Ext.trans X1279 hx1313
                  have X1329 := Ext.trans X1280 hx1313
                  have X1330 := Ext.trans X1281 hx1313
                  have X1331 := Ext.trans X1282 hx1313
                  have X1332 := Ext.trans X1292 hx1313
                  have ho1333 := ho1283.ext hx1313
                  have ho1334 := ho1284.ext hx1313
                  have ho1335 := ho1285.ext hx1313
                  have ho1336 := ho1272.ext hx1313
                  have hb1337 := hb1286.ext hx1313
                  have hb1338 := hb1287.ext hx1313
                  have hb1339 := hb1288.ext hx1313
                  have hb1340 := hb1289.ext hx1313
                  have hb1341 := hb1290.ext hx1313
                  have X1342 := Ext.refl H1312
                  have hr1321 := ho1314.rd
                  have y1343 := hb1337.lt
                  have y1344 := hb1338.lt
                  have y1345 := hb1339.lt
                  have y1346 := hb1340.lt
                  have y1347 := hb1341.lt
                  have o1348 := X1324.bd
                  have o1349 := X1325.bd
                  have o1350 := X1326.bd
                  have o1351 := X1327.bd
                  have o1352 := X1328.bd
                  have o1353 := X1329.bd
                  have o1354 := X1330.bd
                  have o1355 := X1331.bd
                  have o1356 := X1332.bd
                  have o1357 := X1342.bd
                  have a1358 := ho1333.ltb
                  have a1359 := ho1334.ltb
                  have a1360 := ho1335.ltb
                  have a1361 := ho1336.ltb
                  refine Dr.eff 16 _ _ rfl (by intro d h; cases h; exact ⟨rfl, rfl⟩) rfl rfl rfl (EC.of (by intro _ _ h; cases h) (.inl rfl) (WV.call fn129 rfl (concat_ok hr1321 (by simp) (fun x hx => by simp only [List.mem_cons, List.not_mem_nil, or_false] at hx; rcases hx with rfl | rfl | rfl <;> (simp; try omega))))) (fun v H' h => .inl (h.1)) ?_
                  rintro v1362 H1363 ⟨hx1364, ho1365⟩
                  have q1366 := Nat.le_trans q1322 hx1364.bd
                  have q1367 := Nat.le_trans q1323 hx1364.bd
                  have X1368 := Ext.trans X1324 hx1364
                  have X1369 := Ext.trans X1325 hx1364
                  have X1370 := Ext.trans X1326 hx1364
                  have X1371 := Ext.trans X1327 hx1364
                  have X1372 := Ext.trans X1328 hx1364
                  have X1373 := Ext.trans X1329 hx1364
                  have X1374 := Ext.trans X1330 hx1364
                  have X1375 := Ext.trans X1331 hx1364
                  have X1376 := Ext.trans X1332 hx1364
                  have X1377 := Ext.trans X1342 hx1364
                  have ho1378 := ho1333.ext hx1364
                  have ho1379 := ho1334.ext hx1364
                  have ho1380 := ho1335.ext hx1364
                  have ho1381 := ho1336.ext hx1364
                  have hb1382 := hb1337.ext hx1364
                  have hb1383 := hb1338.ext hx1364
                  have hb1384 := hb1339.ext hx1364
                  have hb1385 := hb1340.ext hx1364
                  have hb1386 := hb1341.ext hx1364
                  have X1388 := Ext.refl H1363
                  have y1389 := hb1382.lt
                  have y1390 := hb1383.lt
                  have y1391 := hb1384.lt
                  have y1392 := hb1385.lt
                  have y1393 := hb1386.lt
                  have o1394 := X1368.bd
                  have o1395 := X1369.bd
                  have o1396 := X1370.bd
                  have o1397 := X1371.bd
                  have o1398 := X1372.bd
                  have o1399 := X1373.bd
                  have o1400 := X1374.bd
                  have o1401 := X1375.bd
                  have o1402 := X1376.bd
                  have o1403 := X1377.bd
                  have o1404 := X1388.bd
                  have a1405 := ho1378.ltb
                  have a1406 := ho1379.ltb
                  have a1407 := ho1365.ltb
                  have hc1412 : v1362.cells = #[v1362] := by obtain ⟨A, c, e⟩ := ho1365.isSl; rw [e]; rfl
                  refine Dr.eff 17 _ _ rfl (by intro d h; cases h; exact ⟨rfl, rfl⟩) rfl rfl rfl (EC.of (by intro _ _ h; cases h) (.inl rfl) (WV.bsO (okx := fun b => H1312.bd ≤ b) (K := (kO 2 kI)) (l := ([(([([z1168, (p - z1168) % p] : List Int), (List.replicate (k - 1 : Int).toNat (0 : Int)), (z1158.drop (1 : Int).toNat)] : List (List Int))).flatten] : List (List Int))) (css := [[v1362]]) sl23 rfl rfl (by simp [Instr.fill, hc1412, kO, rng1]) rfl (segs_cons ⟨_, rfl, ho1365⟩ segs_nil))) (fun v H' h => .inl (h.1)) ?_
                  rintro v1408 H1409 ⟨hx1410, ho1411⟩
                  have q1414 := Nat.le_trans q1366 hx1410.bd
                  have q1415 := Nat.le_trans q1367 hx1410.bd
                  have X1416 := Ext.trans X1368 hx1410
                  have X1417 := Ext.trans X1369 hx1410
                  have X1418 := Ext.trans X1370 hx1410
                  have X1419 := Ext.trans X1371 hx1410
                  have X1420 := Ext.trans X1372 hx1410
                  have X1421 := Ext.trans X1373 hx1410
                  have X1422 := Ext.trans X1374 hx1410
                  have X1423 := Ext.trans X1375 hx1410
                  have X1424 := Ext.trans X1376 hx1410
                  have X1425 := Ext.trans X1377 hx1410
                  have X1426 := Ext.trans X1388 hx1410
                  have ho1427 := ho1378.ext hx1410
                  have ho1428 := ho1379.ext hx1410
                  have ho1429 := ho1365.ext hx1410
                  have hb1430 := hb1382.ext hx1410
                  have hb1431 := hb1383.ext hx1410
                  have hb1432 := hb1384.ext hx1410
                  have hb1433 := hb1385.ext hx1410
                  have hb1434 := hb1386.ext hx1410
                  have ho1413 := ho1411.okk (ok' := fun b => H1312.bd ≤ b) (fun b hb _ => hb.elim id (fun e => Nat.le_trans X1377.bd e))
                  have X1436 := Ext.refl H1409
                  refine Dr.eff 18 _ _ rfl (by intro d h; cases h; exact ⟨rfl, rfl⟩) rfl rfl rfl (EC.of (by intro _ _ h; cases h) (.inl rfl) (WV.apD (ok := fun b => H483.bd ≤ b) (B := H1143.bd) sl23 rfl rfl ho1427 (ho1413.okk (ok' := fun b => H1143.bd ≤ b) (fun b hb _ => Nat.le_trans o1354 hb)).rd X1422.bd (by first | (rw [mapR_len]; omega) | (rw [List.length_append, mapR_len, mapR_len]; omega)) (by first | (rw [mapR_len]; omega) | (rw [List.length_append, mapR_len, mapR_len]; omega)))) (fun v H' h => .inr (.inl rfl)) ?_
                  rintro v1437 H1438 ⟨hx1439, ho1440, hb1441⟩
                  have ho1442 := ho1440.okk (ok' := fun b => H483.bd ≤ b) (fun b hb _ => hb.elim id (fun e => by have h1 : H1143.bd ≤ b := e; omega))
                  have q1443 := Nat.le_trans q1414 hx1439.bd
                  have q1444 := Nat.le_trans q1415 hx1439.bd
                  have X1445 := Ext.thru X1416 hx1439 (fun b hb => Nat.le_trans o506 (ho1427.blk b hb).1.1)
                  have X1446 := Ext.thru X1417 hx1439 (fun b hb => Nat.le_trans o507 (ho1427.blk b hb).1.1)
                  have X1447 := Ext.thru X1418 hx1439 (fun b hb => Nat.le_trans o508 (ho1427.blk b hb).1.1)
                  have X1448 := Ext.thru X1419 hx1439 (fun b hb => Nat.le_trans o509 (ho1427.blk b hb).1.1)
                  have X1449 := Ext.thru X1420 hx1439 (fun b hb => Nat.le_trans o510 (ho1427.blk b hb).1.1)
                  have X1450 := Ext.thru X1421 hx1439 (fun b hb => Nat.le_trans o511 (ho1427.blk b hb).1.1)
                  have q1452 := Nat.le_trans X1422.bd hx1439.bd
                  have q1454 := Nat.le_trans X1423.bd hx1439.bd
                  have q1456 := Nat.le_trans X1424.bd hx1439.bd
                  have q1458 := Nat.le_trans X1425.bd hx1439.bd
                  have q1460 := Nat.le_trans X1426.bd hx1439.bd
                  have q1462 := Nat.le_trans X1436.bd hx1439.bd
                  have ho1463 := ho1428.but hx1439 (fun b hb _ e => by have h1 : (H119.bd ≤ b ∧ b ≠ b10) ∧ b < H1_.bd := hb; have h2 : H483.bd ≤ b := (ho1427.blk b e).1.1; omega) (fun b hb => (ho1427.blk b hb).2.2)
                  have hb1464 := hb1430.but hx1439 (fun e => by have q : H483.bd ≤ _ := (ho1427.blk _ e).1.1; omega)
                  have hb1465 := hb1431.but hx1439 (fun e => by have q : H483.bd ≤ _ := (ho1427.blk _ e).1.1; omega)
                  have hb1466 := hb1432.but hx1439 (fun e => by have q : H483.bd ≤ _ := (ho1427.blk _ e).1.1; omega)
                  have hb1467 := hb1433.but hx1439 (fun e => by have q : H483.bd ≤ _ := (ho1427.blk _ e).1.1; omega)
                  have hb1468 := hb1434.but hx1439 (fun e => by have q : H483.bd ≤ _ := (ho1427.blk _ e).1.1; omega)
                  refine Dr.read 19 _ 127 _ rfl rfl rfl rfl rfl (RV.of (by intro _ _ h; cases h) (.inl rfl) (fun _ xd => HV.fa fl31_2 rfl)) ?_
                  refine Dr.read 20 _ 128 _ rfl rfl rfl rfl rfl (RV.of (by intro _ _ h; cases h) (.inl rfl) (fun _ xd => HV.fa fl29_2 rfl)) ?_
                  refine Dr.eff 21 _ _ rfl (by intro d h; cases h) rfl rfl rfl (EC.of (by intro _ _ h; cases h) (.inl rfl) (WV.st rfl rfl va23 (sl_size (rd_ofO ho1442.rd).isSl) hb1468 (Nat.le_of_ble_eq_true rfl) (sl_one (rd_ofO ho1442.rd).isSl))) (fun v H' h => .inr (.inl rfl)) ?_
                  rintro _ H1469 ⟨hx1470, hb1471⟩
                  rw [sl_cells (rd_ofO ho1442.rd).isSl] at hb1471
                  have q1472 := Nat.le_trans q1443 hx1470.bd
                  have q1473 := Nat.le_trans q1444 hx1470.bd
                  have q1474 := Nat.le_trans q1452 hx1470.bd
                  have q1475 := Nat.le_trans q1454 hx1470.bd
                  have q1476 := Nat.le_trans q1456 hx1470.bd
                  have q1477 := Nat.le_trans q1458 hx1470.bd
                  have q1478 := Nat.le_trans q1460 hx1470.bd
                  have q1479 := Nat.le_trans q1462 hx1470.bd
                  have X1480 := Ext.thru X1445 hx1470 (fun z_ hz_ => by rw [hz_]; exact (Nat.le_trans o458 hib10))
                  have X1481 := Ext.thru X1446 hx1470 (fun z_ hz_ => by rw [hz_]; exact (Nat.le_trans o459 hib10))
                  have X1482 := Ext.thru X1447 hx1470 (fun z_ hz_ => by rw [hz_]; exact (Nat.le_trans o460 hib10))
                  have X1483 := Ext.thru X1448 hx1470 (fun z_ hz_ => by rw [hz_]; exact (Nat.le_trans o461 hib10))
                  have X1484 := Ext.thru X1449 hx1470 (fun z_ hz_ => by rw [hz_]; exact (Nat.le_trans o462 hib10))
                  have X1485 := Ext.thru X1450 hx1470 (fun z_ hz_ => by rw [hz_]; exact (Nat.le_trans o463 hib10))
                  have ho1486 := ho1442.but hx1470 (fun b hb _ e => by have hb' : H483.bd ≤ b := hb; have e' : b = b10 := e; omega) (fun z_ hz_ => by rw [hz_]; exact hb1468.w)
                  have ho1487 := ho1463.but hx1470 (fun b hb _ e => by have hb' : (H119.bd ≤ b ∧ b ≠ b10) ∧ b < H1_.bd := hb; have e' : b = b10 := e; omega) (fun z_ hz_ => by rw [hz_]; exact hb1468.w)
                  have hb1488 := hb1464.but hx1470 ne479
                  have hb1489 := hb1465.but hx1470 ne480
                  have hb1490 := hb1466.but hx1470 ne481
                  have hb1491 := hb1467.but hx1470 ne482
                  have hb1492 : At W H1469 b10 ⟨31, [.int .i64 n, u1, .int .i64 p, .int .i64 (k + k2), v1437], 5⟩ := hb1471
                  refine Dr.fin rfl ?_
                  refine nrm_blk (nrm_and ?_)
                  refine AW.reg ?_
                  refine AL.val rfl (.inl rfl) (HV.add rfl rfl (by omega)) ?_
                  refine AL.val rfl (.inl rfl) (HV.mv rfl) ?_
                  refine AL.nil ?_
                  refine nrm_and ?_
                  exact ⟨(j + 1, v1437), ⟨X1480, X1481, X1482, X1483, X1484, X1485, hb1488, hb1489, hb1490, hb1491, q1472, q1473, by omega, hb1492, by rw [mapR_succ, ← List.append_assoc, show joB p k l2 j = (([([z1168, (p - z1168) % p] : List Int), (List.replicate (k - 1 : Int).toNat (0 : Int)), (z1158.drop (1 : Int).toNat)] : List (List Int))).flatten by unfold joB hdB; rw [q3, (gd hz1170 rfl : z1158.getD 0 0 = z1168)]; simp]; exact ho1486, ho1487, trivial⟩, by first | omega | (dsimp only; omega), ⟨rfl, rfl, rfl, rfl, rfl, rfl, rfl, rfl, trivial⟩⟩
                · -- 12 first
                  have y1493 := hb1150.lt
                  have y1494 := hb1151.lt
                  have y1495 := hb1152.lt
                  have y1496 := hb1153.lt
                  have y1497 := hbBj.lt
                  have o1498 := X1144.bd
                  have o1499 := X1145.bd
                  have o1500 := X1146.bd
                  have o1501 := X1147.bd
                  have o1502 := X1148.bd
                  have o1503 := X1149.bd
                  have o1504 := X1177.bd
                  have a1505 := hoLj.ltb
                  have ho1506 := hoLj.okk (ok' := fun b => H483.bd ≤ b ∧ b < H1143.bd) (fun b hb hlt => ⟨hb, hlt⟩)
                  have a1507 := hoUj.ltb
                  rintro v1508 H1509 ⟨hx1510, ho1511⟩
                  have q1512 := Nat.le_trans q1154 hx1510.bd
                  have q1513 := Nat.le_trans q1155 hx1510.bd
                  have X1514 := Ext.trans X1144 hx1510
                  have X1515 := Ext.trans X1145 hx1510
                  have X1516 := Ext.trans X1146 hx1510
                  have X1517 := Ext.trans X1147 hx1510
                  have X1518 := Ext.trans X1148 hx1510
                  have X1519 := Ext.trans X1149 hx1510
                  have X1520 := Ext.trans X1177 hx1510
                  have ho1521 := ho1506.ext hx1510
                  have ho1522 := hoUj.ext hx1510
                  have hb1523 := hb1150.ext hx1510
                  have hb1524 := hb1151.ext hx1510
                  have hb1525 := hb1152.ext hx1510
                  have hb1526 := hb1153.ext hx1510
                  have hb1527 := hbBj.ext hx1510
                  have X1529 := Ext.refl H1509
                  have y1530 := hb1523.lt
                  have y1531 := hb1524.lt
                  have y1532 := hb1525.lt
                  have y1533 := hb1526.lt
                  have y1534 := hb1527.lt
                  have o1535 := X1514.bd
                  have o1536 := X1515.bd
                  have o1537 := X1516.bd
                  have o1538 := X1517.bd
                  have o1539 := X1518.bd
                  have o1540 := X1519.bd
                  have o1541 := X1520.bd
                  have o1542 := X1529.bd
                  have a1543 := ho1521.ltb
                  have a1544 := ho1522.ltb
                  have a1545 := ho1511.ltb
                  refine Dr.eff 7 _ _ rfl (by intro d h; cases h; exact ⟨rfl, rfl⟩) rfl rfl rfl (EC.of (by intro _ _ h; cases h) (.inl rfl) (WV.callv fn65 rfl rfl (two_ok z1168 hp (by have := elem_at q1.2 hz1170; omega) hb1523))) (fun v H' h => .inl (h.1)) ?_
                  rintro v1546 H1547 ⟨hx1548, ho1549⟩
                  have q1550 := Nat.le_trans q1512 hx1548.bd
                  have q1551 := Nat.le_trans q1513 hx1548.bd
                  have X1552 := Ext.trans X1514 hx1548
                  have X1553 := Ext.trans X1515 hx1548
                  have X1554 := Ext.trans X1516 hx1548
                  have X1555 := Ext.trans X1517 hx1548
                  have X1556 := Ext.trans X1518 hx1548
                  have X1557 := Ext.trans X1519 hx1548
                  have X1558 := Ext.trans X1520 hx1548
                  have X1559 := Ext.trans X1529 hx1548
                  have ho1560 := ho1521.ext hx1548
                  have ho1561 := ho1522.ext hx1548
                  have ho1562 := ho1511.ext hx1548
                  have hb1563 := hb1523.ext hx1548
                  have hb1564 := hb1524.ext hx1548
                  have hb1565 := hb1525.ext hx1548
                  have hb1566 := hb1526.ext hx1548
                  have hb1567 := hb1527.ext hx1548
                  have X1569 := Ext.refl H1547
                  have y1570 := hb1563.lt
                  have y1571 := hb1564.lt
                  have y1572 := hb1565.lt
                  have y1573 := hb1566.lt
                  have y1574 := hb1567.lt
                  have o1575 := X1552.bd
                  have o1576 := X1553.bd
                  have o1577 := X1554.bd
                  have o1578 := X1555.bd
                  have o1579 := X1556.bd
                  have o1580 := X1557.bd
                  have o1581 := X1558.bd
                  have o1582 := X1559.bd
                  have o1583 := X1569.bd
                  have a1584 := ho1560.ltb
                  have a1585 := ho1561.ltb
                  have a1586 := ho1562.ltb
                  have a1587 := ho1549.ltb
                  have hr1592 := (ho1549.rd).okk (ok' := fun _ => True) (fun _ _ _ => trivial)
                  have hc1593 : v1546.cells = #[v1546] := by obtain ⟨A, c, e⟩ := hr1592.isSl; rw [e]; rfl
                  have hr1594 := (ho1562.rd).okk (ok' := fun _ => True) (fun _ _ _ => trivial)
                  have hc1595 : v1508.cells = #[v1508] := by obtain ⟨A, c, e⟩ := hr1594.isSl; rw [e]; rfl
                  have hr1596 := ((hr1175.ext X1552)).okk (ok' := fun _ => True) (fun _ _ _ => trivial)
                  have hc1597 : v1174.cells = #[v1174] := by obtain ⟨A, c, e⟩ := hr1596.isSl; rw [e]; rfl
                  refine Dr.eff 15 _ _ rfl (by intro d h; cases h; exact ⟨rfl, rfl⟩) rfl rfl rfl (EC.of (by intro _ _ h; cases h) (.inl rfl) (WV.bsO (okx := fun _ => True) (K := (kR kI)) (l := ([([z1168, (p - z1168) % p] : List Int), (List.replicate (k - 1 : Int).toNat (0 : Int)), (z1158.drop (1 : Int).toNat)] : List (List Int))) (css := [[v1546], [v1508], [v1174]]) sl23 rfl rfl (by simp [Instr.fill, hc1593, hc1595, hc1597, kR, rng1, rng2, rng3]) rfl (segs_cons ⟨_, rfl, hr1592⟩ (segs_cons ⟨_, rfl, hr1594⟩ (segs_cons ⟨_, rfl, hr1596⟩ segs_nil))))) (fun v H' h => .inl (h.1)) ?_
                  rintro v1588 H1589 ⟨hx1590, ho1591⟩
                  have q1599 := Nat.le_trans q1550 hx1590.bd
                  have q1600 := Nat.le_trans q1551 hx1590.bd
                  have X1601 := Ext.trans X1552 hx1590
                  have X1602 := Ext.trans X1553 hx1590
                  have X1603 := Ext.trans X1554 hx1590
                  have X1604 := Ext.trans X1555 hx1590
                  have X1605 := Ext.trans X1556 hx1590
                  have X1606 := Ext.trans X1557 hx1590
                  have X1607 := Ext.trans X1558 hx1590
                  have X1608 := Ext.trans X1559 hx1590
                  have X1609 := Ext.trans X1569 hx1590
                  have ho1610 := ho1560.ext hx1590
                  have ho1611 := ho1561.ext hx1590
                  have ho1612 := ho1562.ext hx1590
                  have ho1613 := ho1549.ext hx1590
                  have hb1614 := hb1563.ext hx1590
                  have hb1615 := hb1564.ext hx1590
                  have hb1616 := hb1565.ext hx1590
                  have hb1617 := hb1566.ext hx1590
                  have hb1618 := hb1567.ext hx1590
                  have X1619 := Ext.refl H1589
                  have hr1598 := ho1591.rd
                  have y1620 := hb1614.lt
                  have y1621 := hb1615.lt
                  have y1622 := hb1616.lt
                  have y1623 := hb1617.lt
                  have y1624 := hb1618.lt
                  have o1625 := X1601.bd
                  have o1626 := X1602.bd
                  have o1627 := X1603.bd
                  have o1628 := X1604.bd
                  have o1629 := X1605.bd
                  have o1630 := X1606.bd
                  have o1631 := X1607.bd
                  have o1632 := X1608.bd
                  have o1633 := X1609.bd
                  have o1634 := X1619.bd
                  have a1635 := ho1610.ltb
                  have a1636 := ho1611.ltb
                  have a1637 := ho1612.ltb
                  have a1638 := ho1613.ltb
                  refine Dr.eff 16 _ _ rfl (by intro d h; cases h; exact ⟨rfl, rfl⟩) rfl rfl rfl (EC.of (by intro _ _ h; cases h) (.inl rfl) (WV.call fn129 rfl (concat_ok hr1598 (by simp) (fun x hx => by simp only [List.mem_cons, List.not_mem_nil, or_false] at hx; rcases hx with rfl | rfl | rfl <;> (simp; try omega))))) (fun v H' h => .inl (h.1)) ?_
                  rintro v1639 H1640 ⟨hx1641, ho1642⟩
                  have q1643 := Nat.le_trans q1599 hx1641.bd
                  have q1644 := Nat.le_trans q1600 hx1641.bd
                  have X1645 := Ext.trans X1601 hx1641
                  have X1646 := Ext.trans X1602 hx1641
                  have X1647 := Ext.trans X1603 hx1641
                  have X1648 := Ext.trans X1604 hx1641
                  have X1649 := Ext.trans X1605 hx1641
                  have X1650 := Ext.trans X1606 hx1641
                  have X1651 := Ext.trans X1607 hx1641
                  have X1652 := Ext.trans X1608 hx1641
                  have X1653 := Ext.trans X1609 hx1641
                  have X1654 := Ext.trans X1619 hx1641
                  have ho1655 := ho1610.ext hx1641
                  have ho1656 := ho1611.ext hx1641
                  have ho1657 := ho1612.ext hx1641
                  have ho1658 := ho1613.ext hx1641
                  have hb1659 := hb1614.ext hx1641
                  have hb1660 := hb1615.ext hx1641
                  have hb1661 := hb1616.ext hx1641
                  have hb1662 := hb1617.ext hx1641
                  have hb1663 := hb1618.ext hx1641
                  have X1665 := Ext.refl H1640
                  have y1666 := hb1659.lt
                  have y1667 := hb1660.lt
                  have y1668 := hb1661.lt
                  have y1669 := hb1662.lt
                  have y1670 := hb1663.lt
                  have o1671 := X1645.bd
                  have o1672 := X1646.bd
                  have o1673 := X1647.bd
                  have o1674 := X1648.bd
                  have o1675 := X1649.bd
                  have o1676 := X1650.bd
                  have o1677 := X1651.bd
                  have o1678 := X1652.bd
                  have o1679 := X1653.bd
                  have o1680 := X1654.bd
                  have o1681 := X1665.bd
                  have a1682 := ho1655.ltb
                  have a1683 := ho1656.ltb
                  have a1684 := ho1642.ltb
                  have hc1689 : v1639.cells = #[v1639] := by obtain ⟨A, c, e⟩ := ho1642.isSl; rw [e]; rfl
                  refine Dr.eff 17 _ _ rfl (by intro d h; cases h; exact ⟨rfl, rfl⟩) rfl rfl rfl (EC.of (by intro _ _ h; cases h) (.inl rfl) (WV.bsO (okx := fun b => H1589.bd ≤ b) (K := (kO 2 kI)) (l := ([(([([z1168, (p - z1168) % p] : List Int), (List.replicate (k - 1 : Int).toNat (0 : Int)), (z1158.drop (1 : Int).toNat)] : List (List Int))).flatten] : List (List Int))) (css := [[v1639]]) sl23 rfl rfl (by simp [Instr.fill, hc1689, kO, rng1]) rfl (segs_cons ⟨_, rfl, ho1642⟩ segs_nil))) (fun v H' h => .inl (h.1)) ?_
                  rintro v1685 H1686 ⟨hx1687, ho1688⟩
                  have q1691 := Nat.le_trans q1643 hx1687.bd
                  have q1692 := Nat.le_trans q1644 hx1687.bd
                  have X1693 := Ext.trans X1645 hx1687
                  have X1694 := Ext.trans X1646 hx1687
                  have X1695 := Ext.trans X1647 hx1687
                  have X1696 := Ext.trans X1648 hx1687
                  have X1697 := Ext.trans X1649 hx1687
                  have X1698 := Ext.trans X1650 hx1687
                  have X1699 := Ext.trans X1651 hx1687
                  have X1700 := Ext.trans X1652 hx1687
                  have X1701 := Ext.trans X1653 hx1687
                  have X1702 := Ext.trans X1654 hx1687
                  have X1703 := Ext.trans X1665 hx1687
                  have ho1704 := ho1655.ext hx1687
                  have ho1705 := ho1656.ext hx1687
                  have ho1706 := ho1642.ext hx1687
                  have hb1707 := hb1659.ext hx1687
                  have hb1708 := hb1660.ext hx1687
                  have hb1709 := hb1661.ext hx1687
                  have hb1710 := hb1662.ext hx1687
                  have hb1711 := hb1663.ext hx1687
                  have ho1690 := ho1688.okk (ok' := fun b => H1589.bd ≤ b) (fun b hb _ => hb.elim id (fun e => Nat.le_trans X1654.bd e))
                  have X1713 := Ext.refl H1686
                  refine Dr.eff 18 _ _ rfl (by intro d h; cases h; exact ⟨rfl, rfl⟩) rfl rfl rfl (EC.of (by intro _ _ h; cases h) (.inl rfl) (WV.apD (ok := fun b => H483.bd ≤ b) (B := H1143.bd) sl23 rfl rfl ho1704 (ho1690.okk (ok' := fun b => H1143.bd ≤ b) (fun b hb _ => Nat.le_trans o1631 hb)).rd X1699.bd (by first | (rw [mapR_len]; omega) | (rw [List.length_append, mapR_len, mapR_len]; omega)) (by first | (rw [mapR_len]; omega) | (rw [List.length_append, mapR_len, mapR_len]; omega)))) (fun v H' h => .inr (.inl rfl)) ?_
                  rintro v1714 H1715 ⟨hx1716, ho1717, hb1718⟩
                  have ho1719 := ho1717.okk (ok' := fun b => H483.bd ≤ b) (fun b hb _ => hb.elim id (fun e => by have h1 : H1143.bd ≤ b := e; omega))
                  have q1720 := Nat.le_trans q1691 hx1716.bd
                  have q1721 := Nat.le_trans q1692 hx1716.bd
                  have X1722 := Ext.thru X1693 hx1716 (fun b hb => Nat.le_trans o506 (ho1704.blk b hb).1.1)
                  have X1723 := Ext.thru X1694 hx1716 (fun b hb => Nat.le_trans o507 (ho1704.blk b hb).1.1)
                  have X1724 := Ext.thru X1695 hx1716 (fun b hb => Nat.le_trans o508 (ho1704.blk b hb).1.1)
                  have X1725 := Ext.thru X1696 hx1716 (fun b hb => Nat.le_trans o509 (ho1704.blk b hb).1.1)
                  have X1726 := Ext.thru X1697 hx1716 (fun b hb => Nat.le_trans o510 (ho1704.blk b hb).1.1)
                  have X1727 := Ext.thru X1698 hx1716 (fun b hb => Nat.le_trans o511 (ho1704.blk b hb).1.1)
                  have q1729 := Nat.le_trans X1699.bd hx1716.bd
                  have q1731 := Nat.le_trans X1700.bd hx1716.bd
                  have q1733 := Nat.le_trans X1701.bd hx1716.bd
                  have q1735 := Nat.le_trans X1702.bd hx1716.bd
                  have q1737 := Nat.le_trans X1703.bd hx1716.bd
                  have q1739 := Nat.le_trans X1713.bd hx1716.bd
                  have ho1740 := ho1705.but hx1716 (fun b hb _ e => by have h1 : (H119.bd ≤ b ∧ b ≠ b10) ∧ b < H1_.bd := hb; have h2 : H483.bd ≤ b := (ho1704.blk b e).1.1; omega) (fun b hb => (ho1704.blk b hb).2.2)
                  have hb1741 := hb1707.but hx1716 (fun e => by have q : H483.bd ≤ _ := (ho1704.blk _ e).1.1; omega)
                  have hb1742 := hb1708.but hx1716 (fun e => by have q : H483.bd ≤ _ := (ho1704.blk _ e).1.1; omega)
                  have hb1743 := hb1709.but hx1716 (fun e => by have q : H483.bd ≤ _ := (ho1704.blk _ e).1.1; omega)
                  have hb1744 := hb1710.but hx1716 (fun e => by have q : H483.bd ≤ _ := (ho1704.blk _ e).1.1; omega)
                  have hb1745 := hb1711.but hx1716 (fun e => by have q : H483.bd ≤ _ := (ho1704.blk _ e).1.1; omega)
                  refine Dr.read 19 _ 127 _ rfl rfl rfl rfl rfl (RV.of (by intro _ _ h; cases h) (.inl rfl) (fun _ xd => HV.fa fl31_2 rfl)) ?_
                  refine Dr.read 20 _ 128 _ rfl rfl rfl rfl rfl (RV.of (by intro _ _ h; cases h) (.inl rfl) (fun _ xd => HV.fa fl29_2 rfl)) ?_
                  refine Dr.eff 21 _ _ rfl (by intro d h; cases h) rfl rfl rfl (EC.of (by intro _ _ h; cases h) (.inl rfl) (WV.st rfl rfl va23 (sl_size (rd_ofO ho1719.rd).isSl) hb1745 (Nat.le_of_ble_eq_true rfl) (sl_one (rd_ofO ho1719.rd).isSl))) (fun v H' h => .inr (.inl rfl)) ?_
                  rintro _ H1746 ⟨hx1747, hb1748⟩
                  rw [sl_cells (rd_ofO ho1719.rd).isSl] at hb1748
                  have q1749 := Nat.le_trans q1720 hx1747.bd
                  have q1750 := Nat.le_trans q1721 hx1747.bd
                  have q1751 := Nat.le_trans q1729 hx1747.bd
                  have q1752 := Nat.le_trans q1731 hx1747.bd
                  have q1753 := Nat.le_trans q1733 hx1747.bd
                  have q1754 := Nat.le_trans q1735 hx1747.bd
                  have q1755 := Nat.le_trans q1737 hx1747.bd
                  have q1756 := Nat.le_trans q1739 hx1747.bd
                  have X1757 := Ext.thru X1722 hx1747 (fun z_ hz_ => by rw [hz_]; exact (Nat.le_trans o458 hib10))
                  have X1758 := Ext.thru X1723 hx1747 (fun z_ hz_ => by rw [hz_]; exact (Nat.le_trans o459 hib10))
                  have X1759 := Ext.thru X1724 hx1747 (fun z_ hz_ => by rw [hz_]; exact (Nat.le_trans o460 hib10))
                  have X1760 := Ext.thru X1725 hx1747 (fun z_ hz_ => by rw [hz_]; exact (Nat.le_trans o461 hib10))
                  have X1761 := Ext.thru X1726 hx1747 (fun z_ hz_ => by rw [hz_]; exact (Nat.le_trans o462 hib10))
                  have X1762 := Ext.thru X1727 hx1747 (fun z_ hz_ => by rw [hz_]; exact (Nat.le_trans o463 hib10))
                  have ho1763 := ho1719.but hx1747 (fun b hb _ e => by have hb' : H483.bd ≤ b := hb; have e' : b = b10 := e; omega) (fun z_ hz_ => by rw [hz_]; exact hb1745.w)
                  have ho1764 := ho1740.but hx1747 (fun b hb _ e => by have hb' : (H119.bd ≤ b ∧ b ≠ b10) ∧ b < H1_.bd := hb; have e' : b = b10 := e; omega) (fun z_ hz_ => by rw [hz_]; exact hb1745.w)
                  have hb1765 := hb1741.but hx1747 ne479
                  have hb1766 := hb1742.but hx1747 ne480
                  have hb1767 := hb1743.but hx1747 ne481
                  have hb1768 := hb1744.but hx1747 ne482
                  have hb1769 : At W H1746 b10 ⟨31, [.int .i64 n, u1, .int .i64 p, .int .i64 (k + k2), v1714], 5⟩ := hb1748
                  refine Dr.fin rfl ?_
                  refine nrm_blk (nrm_and ?_)
                  refine AW.reg ?_
                  refine AL.val rfl (.inl rfl) (HV.add rfl rfl (by omega)) ?_
                  refine AL.val rfl (.inl rfl) (HV.mv rfl) ?_
                  refine AL.nil ?_
                  refine nrm_and ?_
                  exact ⟨(j + 1, v1714), ⟨X1757, X1758, X1759, X1760, X1761, X1762, hb1765, hb1766, hb1767, hb1768, q1749, q1750, by omega, hb1769, by rw [mapR_succ, ← List.append_assoc, show joB p k l2 j = (([([z1168, (p - z1168) % p] : List Int), (List.replicate (k - 1 : Int).toNat (0 : Int)), (z1158.drop (1 : Int).toNat)] : List (List Int))).flatten by unfold joB hdB; rw [q3, (gd hz1170 rfl : z1158.getD 0 0 = z1168)]; simp]; exact ho1763, ho1764, trivial⟩, by first | omega | (dsimp only; omega), ⟨rfl, rfl, rfl, rfl, rfl, rfl, rfl, rfl, trivial⟩⟩
              · -- else
                refine AW.exit ?_
                refine ex_and (ex_and (ex_blk ?_))
                refine nrm_and ?_
                refine AW.rs ?_
                have ho1770 : OwnD (kO 2 kI) 22 W H1143 (fun b => H483.bd ≤ b) ww (joL p k k2 l l2) := by unfold joL; rw [show l2.length = j by omega]; exact hoLj
                refine AL.val rfl (.inl rfl) (HV.lda (cs := [.int .i64 n, u1, .int .i64 p, .int .i64 (k + k2), ww]) rfl va31 (at_cells hbBj rfl)) ?_
                by_cases hJ : okSc n (o ++ o2) p (k + k2) (joL p k k2 l l2)
                · -- right
                  refine AL.w rfl (.inl rfl) (WV.call fn108 rfl (schLim_ok n p (k + k2) hoUj.rd (rd_ofO ho1770.rd))) ?_
                  rintro _ H1771 ⟨e1773, hx1772⟩
                  rw [if_pos hJ] at e1773
                  subst e1773
                  have q1774 := Nat.le_trans q1154 hx1772.bd
                  have q1775 := Nat.le_trans q1155 hx1772.bd
                  have X1776 := Ext.trans X1144 hx1772
                  have X1777 := Ext.trans X1145 hx1772
                  have X1778 := Ext.trans X1146 hx1772
                  have X1779 := Ext.trans X1147 hx1772
                  have X1780 := Ext.trans X1148 hx1772
                  have X1781 := Ext.trans X1149 hx1772
                  have ho1782 := ho1770.ext hx1772
                  have ho1783 := hoUj.ext hx1772
                  have hb1784 := hb1150.ext hx1772
                  have hb1785 := hb1151.ext hx1772
                  have hb1786 := hb1152.ext hx1772
                  have hb1787 := hb1153.ext hx1772
                  have hb1788 := hbBj.ext hx1772
                  refine AL.val rfl (.inl rfl) (HV.ex rfl rfl) ?_
                  refine AL.val rfl (.inl rfl) (HV.ex rfl rfl) ?_
                  refine AL.w0 (.inl rfl) (WV.st rfl rfl va31 rfl hb1787 (Nat.le_of_ble_eq_true rfl) (one_cons rfl (one_cons (sl_one1 ho1783.rd.isSl) (one_cons rfl (one_cons rfl (one_cons (sl_one1 (rd_ofO ho1782.rd).isSl) one_nil)))))) ?_
                  rintro _ H1789 ⟨hx1790, hb1791⟩
                  have q1792 := Nat.le_trans q1774 hx1790.bd
                  have q1793 := Nat.le_trans q1775 hx1790.bd
                  have X1794 := Ext.thru X1776 hx1790 (fun z_ hz_ => by rw [hz_]; exact o34)
                  have X1795 := Ext.thru X1777 hx1790 (fun z_ hz_ => by rw [hz_]; exact o35)
                  have X1796 := Ext.thru X1778 hx1790 (fun z_ hz_ => by rw [hz_]; exact o36)
                  have q1798 := Nat.le_trans X1779.bd hx1790.bd
                  have q1800 := Nat.le_trans X1780.bd hx1790.bd
                  have q1802 := Nat.le_trans X1781.bd hx1790.bd
                  have ho1803 := ho1782.but hx1790 (fun b hb _ e => by have hb' : H483.bd ≤ b := hb; have e' : b = b29 := e; omega) (fun z_ hz_ => by rw [hz_]; exact hb1787.w)
                  have ho1804 := ho1783.but hx1790 (fun b hb _ e => by have hb' : (H119.bd ≤ b ∧ b ≠ b10) ∧ b < H1_.bd := hb; have e' : b = b29 := e; omega) (fun z_ hz_ => by rw [hz_]; exact hb1787.w)
                  have hb1805 := hb1784.but hx1790 ne37
                  have hb1806 := hb1785.but hx1790 ne38
                  have hb1807 := hb1786.but hx1790 ne39
                  have hb1808 := hb1788.but hx1790 (fun e => ne482 e.symm)
                  have hb1809 : At W H1789 b29 ⟨31, [.int .i64 n, u1, .int .i64 p, .int .i64 (k + k2), ww], 5⟩ := hb1791
                  refine AL.val rfl (.inl rfl) (HV.as rfl) ?_
                  refine AL.nx ?_
                  refine AW.ret ?_
                  refine post_ct rfl rfl rfl va31 hb1809 ?_ (.inr rfl)
                  have hC := bsC_0 hwz hJ; exact ⟨⟨_, _, H1_.bd, by rw [zI_yes hC, zI_yes hC, zI_yes hC, hC] <;> rfl, by rw [zL_yes hC]; exact ho1804.okk (fun b hb _ => ⟨Nat.le_trans o458 hb.1.1, hb.2⟩), by rw [zL_yes hC]; exact ho1803.okk (fun b hb _ => by have h1 : H483.bd ≤ b := hb; have h2 := o506; exact ⟨by omega, by omega⟩)⟩, X1794⟩
                · -- not
                  refine AL.w rfl (.inl rfl) (WV.call fn108 rfl (schLim_ok n p (k + k2) hoUj.rd (rd_ofO ho1770.rd))) ?_
                  rintro _ H1810 ⟨e1812, hx1811⟩
                  rw [if_neg hJ] at e1812
                  subst e1812
                  have q1813 := Nat.le_trans q1154 hx1811.bd
                  have q1814 := Nat.le_trans q1155 hx1811.bd
                  have X1815 := Ext.trans X1144 hx1811
                  have X1816 := Ext.trans X1145 hx1811
                  have X1817 := Ext.trans X1146 hx1811
                  have X1818 := Ext.trans X1147 hx1811
                  have X1819 := Ext.trans X1148 hx1811
                  have X1820 := Ext.trans X1149 hx1811
                  have ho1821 := ho1770.ext hx1811
                  have ho1822 := hoUj.ext hx1811
                  have hb1823 := hb1150.ext hx1811
                  have hb1824 := hb1151.ext hx1811
                  have hb1825 := hb1152.ext hx1811
                  have hb1826 := hb1153.ext hx1811
                  have hb1827 := hbBj.ext hx1811
                  refine AL.val rfl (.inl rfl) (HV.ex rfl rfl) ?_
                  refine AL.val rfl (.inl rfl) (HV.ex rfl rfl) ?_
                  refine AL.w0 (.inl rfl) (WV.st rfl rfl va31 rfl hb1826 (Nat.le_of_ble_eq_true rfl) (one_cons rfl (one_cons (sl_one1 ⟨none, 0, rfl⟩) (one_cons rfl (one_cons rfl (one_cons (sl_one1 ⟨none, 0, rfl⟩) one_nil)))))) ?_
                  rintro _ H1828 ⟨hx1829, hb1830⟩
                  have q1831 := Nat.le_trans q1813 hx1829.bd
                  have q1832 := Nat.le_trans q1814 hx1829.bd
                  have X1833 := Ext.thru X1815 hx1829 (fun z_ hz_ => by rw [hz_]; exact o34)
                  have X1834 := Ext.thru X1816 hx1829 (fun z_ hz_ => by rw [hz_]; exact o35)
                  have X1835 := Ext.thru X1817 hx1829 (fun z_ hz_ => by rw [hz_]; exact o36)
                  have q1837 := Nat.le_trans X1818.bd hx1829.bd
                  have q1839 := Nat.le_trans X1819.bd hx1829.bd
                  have q1841 := Nat.le_trans X1820.bd hx1829.bd
                  have ho1842 := ho1821.but hx1829 (fun b hb _ e => by have hb' : H483.bd ≤ b := hb; have e' : b = b29 := e; omega) (fun z_ hz_ => by rw [hz_]; exact hb1826.w)
                  have ho1843 := ho1822.but hx1829 (fun b hb _ e => by have hb' : (H119.bd ≤ b ∧ b ≠ b10) ∧ b < H1_.bd := hb; have e' : b = b29 := e; omega) (fun z_ hz_ => by rw [hz_]; exact hb1826.w)
                  have hb1844 := hb1823.but hx1829 ne37
                  have hb1845 := hb1824.but hx1829 ne38
                  have hb1846 := hb1825.but hx1829 ne39
                  have hb1847 := hb1827.but hx1829 (fun e => ne482 e.symm)
                  have hb1848 : At W H1828 b29 ⟨31, [.int .i64 0, (.slice none 0 0), .int .i64 0, .int .i64 0, (.slice none 0 0)], 5⟩ := hb1830
                  refine AL.val rfl (.inl rfl) (HV.as rfl) ?_
                  refine AL.nx ?_
                  refine AW.ret ?_
                  refine post_ct rfl rfl rfl va31 hb1848 ?_ (.inr rfl)
                  have hC := bsC_3 hwz hJ; have hC0 : bsC n o p k l n2 o2 p2 k2 l2 ≠ 0 := (by omega); exact ⟨⟨.slice none 0 0, .slice none 0 0, 0, by rw [zI_no hC0, zI_no hC0, zI_no hC0, hC] <;> rfl, by rw [zL_no hC0]; exact OwnK.nil _, by rw [zL_no hC0]; exact OwnD.nil _⟩, X1833⟩
  · -- true
    have c57_ : (!decide (okSc n o p k l)) = true := by rw [decide_eq_false c57]; rfl
    rw [c57_]
    refine AL.off rfl rfl (by decide) rfl ?_
    refine AL.off rfl rfl (by decide) rfl ?_
    refine AL.off rfl rfl (by decide) rfl ?_
    refine AL.val rfl (.inl rfl) (HV.pickT rfl rfl) ?_
    refine AL.val rfl (.inl rfl) (HV.as rfl) ?_
    refine AL.nx ?_
    refine AW.cond rfl (fun _ => ?_) (fun h => by cases h)
    refine AW.rs ?_
    refine AL.val rfl (.inl rfl) (HV.bd rfl (bd31_ )) ?_
    refine AL.w0 (.inl rfl) (WV.st rfl rfl va31 rfl hb56 (Nat.le_of_ble_eq_true rfl) (one_cons rfl (one_cons (sl_one1 ⟨none, 0, rfl⟩) (one_cons rfl (one_cons rfl (one_cons (sl_one1 ⟨none, 0, rfl⟩) one_nil)))))) ?_
    rintro _ H1850 ⟨hx1851, hb1852⟩
    have X1853 := Ext.thru X49 hx1851 (fun z_ hz_ => by rw [hz_]; exact o34)
    have X1854 := Ext.thru X50 hx1851 (fun z_ hz_ => by rw [hz_]; exact o35)
    have X1855 := Ext.thru X51 hx1851 (fun z_ hz_ => by rw [hz_]; exact o36)
    have q1857 := Nat.le_trans X52.bd hx1851.bd
    have hb1858 := hb53.but hx1851 ne37
    have hb1859 := hb54.but hx1851 ne38
    have hb1860 := hb55.but hx1851 ne39
    have hb1861 : At W H1850 b29 ⟨31, [.int .i64 0, (.slice none 0 0), .int .i64 0, .int .i64 0, (.slice none 0 0)], 5⟩ := hb1852
    refine AL.val rfl (.inl rfl) (HV.as rfl) ?_
    refine AL.nx ?_
    refine AW.ret ?_
    refine ret_blk (ret_and ?_)
    refine post_ct rfl rfl rfl va31 hb1861 ?_ (.inr rfl)
    have hq : prC n o p k l n2 o2 p2 k2 l2 = 1 := prC_1 (fun q => by first | exact absurd q.1 (by assumption) | exact absurd q.2 (by assumption)); have hC : bsC n o p k l n2 o2 p2 k2 l2 = 1 := (bsC_p (by omega)).trans hq; have hC0 : bsC n o p k l n2 o2 p2 k2 l2 ≠ 0 := (by omega); exact ⟨⟨.slice none 0 0, .slice none 0 0, 0, by rw [zI_no hC0, zI_no hC0, zI_no hC0, hC] <;> rfl, by rw [zL_no hC0]; exact OwnK.nil _, by rw [zL_no hC0]; exact OwnD.nil _⟩, X1853⟩

set_option maxRecDepth 100000 in
theorem implBS_ok {vo v : Value} {o : List Int} {l : List (List Int)} {oko ok : Nat → Prop} (n p k : Int) (ho : RdK kI W H oko vo o) (hr : RdK (kR kI) W H ok v l) {vo2 v2 : Value} {o2 : List Int} {l2 : List (List Int)} {oko2 ok2 : Nat → Prop} (n2 p2 k2 : Int) (ho2 : RdK kI W H oko2 vo2 o2) (hr2 : RdK (kR kI) W H ok2 v2 l2) : ACalls Try.prog W 16 #[.agg #[.int .i64 n, vo, .int .i64 p, .int .i64 k, v], .agg #[.int .i64 n2, vo2, .int .i64 p2, .int .i64 k2, v2]] H (fun r H' => (∃ (u v : Value) (B : Nat), r = .tuple #[.agg #[.int .i64 (zI (bsC n o p k l n2 o2 p2 k2 l2) n), u, .int .i64 (zI (bsC n o p k l n2 o2 p2 k2 l2) p), .int .i64 (zI (bsC n o p k l n2 o2 p2 k2 l2) (k + k2)), v], .int .i64 (bsC n o p k l n2 o2 p2 k2 l2)] ∧ OwnK kI 2 W H' (fun b => H.bd ≤ b ∧ b < B) u (zL (bsC n o p k l n2 o2 p2 k2 l2) (o ++ o2)) ∧ OwnD (kO 2 kI) 22 W H' (fun b => H.bd ≤ b ∧ B ≤ b) v (zL (bsC n o p k l n2 o2 p2 k2 l2) (joL p k k2 l l2))) ∧ Ext H H') := by
  refine ACalls.of (args := [.agg #[.int .i64 n, vo, .int .i64 p, .int .i64 k, v], .agg #[.int .i64 n2, vo2, .int .i64 p2, .int .i64 k2, v2]]) Try.func16 rfl rfl ?_
  have X0 := Ext.refl H
  have hm1 := ho.max
  have hm2 := hr.max
  have hm3 := ho2.max
  have hm4 := hr2.max
  refine AW.rs ?_
  refine AL.w rfl (.inl rfl) (WV.bx rfl rfl) ?_
  rintro _ H6 ⟨b5, rfl, hx7, hn8, hb9⟩
  have o10 := Nat.le_trans X0.bd hn8
  have X11 := Ext.trans X0 hx7
  have X12 := Ext.refl H6
  refine AL.w rfl (.inl rfl) (WV.bx rfl rfl) ?_
  rintro _ H14 ⟨b13, rfl, hx15, hn16, hb17⟩
  have o18 := Nat.le_trans X11.bd hn16
  have o19 := Nat.le_trans X12.bd hn16
  have ne20 : b5 ≠ b13 := by have := hb9.lt; omega
  have X21 := Ext.trans X11 hx15
  have X22 := Ext.trans X12 hx15
  have hb23 := hb9.ext hx15
  have X24 := Ext.refl H14
  refine AL.w rfl (.inl rfl) (WV.al ze31 rfl) ?_
  rintro _ H26 ⟨b25, rfl, hx27, hn28, hb29⟩
  have o30 := Nat.le_trans X21.bd hn28
  have o31 := Nat.le_trans X22.bd hn28
  have o32 := Nat.le_trans X24.bd hn28
  have ne33 : b5 ≠ b25 := by have := hb23.lt; omega
  have ne34 : b13 ≠ b25 := by have := hb17.lt; omega
  have X35 := Ext.trans X21 hx27
  have X36 := Ext.trans X22 hx27
  have X37 := Ext.trans X24 hx27
  have hb38 := hb23.ext hx27
  have hb39 := hb17.ext hx27
  have X40 := Ext.refl H26
  refine AL.val rfl (.inl rfl) (HV.as rfl) ?_
  refine AL.nx ?_
  refine AW.rs ?_
  refine AL.val rfl (.inl rfl) (HV.fa fl31_2 rfl) ?_
  refine AL.val rfl (.inl rfl) (HV.fa fl29_0 rfl) ?_
  refine AL.val rfl (.inl rfl) (HV.ld rfl va2 (at_cell_add (j := 2) hb38 rfl)) ?_
  refine AL.w rfl (.inl rfl) (WV.al ze2 rfl) ?_
  rintro _ H42 ⟨b41, rfl, hx43, hn44, hb45⟩
  have o46 := Nat.le_trans X35.bd hn44
  have o47 := Nat.le_trans X36.bd hn44
  have o48 := Nat.le_trans X37.bd hn44
  have o49 := Nat.le_trans X40.bd hn44
  have ne50 : b5 ≠ b41 := by have := hb38.lt; omega
  have ne51 : b13 ≠ b41 := by have := hb39.lt; omega
  have ne52 : b25 ≠ b41 := by have := hb29.lt; omega
  have X53 := Ext.trans X35 hx43
  have X54 := Ext.trans X36 hx43
  have X55 := Ext.trans X37 hx43
  have X56 := Ext.trans X40 hx43
  have hb57 := hb38.ext hx43
  have hb58 := hb39.ext hx43
  have hb59 := hb29.ext hx43
  have X60 := Ext.refl H42
  refine AL.w0 (.inl rfl) (WV.st rfl rfl va2 rfl hb45 (Nat.le_of_ble_eq_true rfl) (one_cons rfl one_nil)) ?_
  rintro _ H61 ⟨hx62, hb63⟩
  have X64 := Ext.thru X53 hx62 (fun z_ hz_ => by rw [hz_]; exact o46)
  have X65 := Ext.thru X54 hx62 (fun z_ hz_ => by rw [hz_]; exact o47)
  have X66 := Ext.thru X55 hx62 (fun z_ hz_ => by rw [hz_]; exact o48)
  have X67 := Ext.thru X56 hx62 (fun z_ hz_ => by rw [hz_]; exact o49)
  have hb69 := hb57.but hx62 ne50
  have hb70 := hb58.but hx62 ne51
  have hb71 := hb59.but hx62 ne52
  have hb72 : At W H61 b41 ⟨2, [.int .i64 p], 1⟩ := hb63
  refine AL.nx ?_
  refine AW.rs ?_
  refine AL.val rfl (.inl rfl) (HV.lda (cs := [.int .i64 n, vo, .int .i64 p, .int .i64 k, v]) rfl va31 (at_cells hb69 rfl)) ?_
  refine AL.val rfl (.inl rfl) (HV.lda (cs := [.int .i64 n2, vo2, .int .i64 p2, .int .i64 k2, v2]) rfl va31 (at_cells hb70 rfl)) ?_
  refine AL.val rfl (.inl rfl) (HV.fn rfl rfl) ?_
  have X73 := Ext.refl H61
  have y74 := hb69.lt
  have y75 := hb70.lt
  have y76 := hb71.lt
  have y77 := hb72.lt
  have o78 := X64.bd
  have o79 := X65.bd
  have o80 := X66.bd
  have o81 := X67.bd
  have o82 := X73.bd
  refine AL.w rfl (.inl rfl) (WV.call fn63 rfl (joined_ok n p k (ho.ext X64) (hr.ext X64) n2 p2 k2 (ho2.ext X64) (hr2.ext X64) hb72)) ?_
  rintro _ H86 ⟨⟨u83, v84, B85, rfl, ho88, ho89⟩, hx87⟩
  have X92 := Ext.trans X64 hx87
  have X93 := Ext.trans X65 hx87
  have X94 := Ext.trans X66 hx87
  have X95 := Ext.trans X67 hx87
  have X96 := Ext.trans X73 hx87
  have hb97 := hb69.ext hx87
  have hb98 := hb70.ext hx87
  have hb99 := hb71.ext hx87
  have hb100 := hb72.ext hx87
  have X101 := Ext.refl H86
  have hr90 := ho88.okk (ok' := fun b => (H61.bd ≤ b ∧ b < B85) ∧ b < H86.bd) (fun b hb hlt => ⟨hb, hlt⟩)
  have hr91 := ho89.okk (ok' := fun b => (H61.bd ≤ b ∧ B85 ≤ b) ∧ b < H86.bd) (fun b hb hlt => ⟨hb, hlt⟩)
  refine AL.val rfl (.inl rfl) (HV.ex rfl rfl) ?_
  refine AL.val rfl (.inl rfl) (HV.ex rfl rfl) ?_
  refine AL.w0 (.inl rfl) (WV.st rfl rfl va31 rfl hb99 (Nat.le_of_ble_eq_true rfl) (one_cons rfl (one_cons (sl_one1 hr90.rd.isSl) (one_cons rfl (one_cons rfl (one_cons (sl_one1 (rd_ofO hr91.rd).isSl) one_nil)))))) ?_
  rintro _ H104 ⟨hx105, hb106⟩
  have X107 := Ext.thru X92 hx105 (fun z_ hz_ => by rw [hz_]; exact o30)
  have X108 := Ext.thru X93 hx105 (fun z_ hz_ => by rw [hz_]; exact o31)
  have X109 := Ext.thru X94 hx105 (fun z_ hz_ => by rw [hz_]; exact o32)
  have ho113 := hr90.but hx105 (fun b hb _ e => by have hb' : (H61.bd ≤ b ∧ b < B85) ∧ b < H86.bd := hb; have e' : b = b25 := e; omega) (fun z_ hz_ => by rw [hz_]; exact hb99.w)
  have ho114 := hr91.but hx105 (fun b hb _ e => by have hb' : (H61.bd ≤ b ∧ B85 ≤ b) ∧ b < H86.bd := hb; have e' : b = b25 := e; omega) (fun z_ hz_ => by rw [hz_]; exact hb99.w)
  have hb115 := hb97.but hx105 ne33
  have hb116 := hb98.but hx105 ne34
  have hb117 := hb100.but hx105 (fun e => ne52 e.symm)
  have hb118 : At W H104 b25 ⟨31, [.int .i64 (zI (bsC n o p k l n2 o2 p2 k2 l2) n), u83, .int .i64 (zI (bsC n o p k l n2 o2 p2 k2 l2) p), .int .i64 (zI (bsC n o p k l n2 o2 p2 k2 l2) (k + k2)), v84], 5⟩ := hb106
  refine AL.val rfl (.inl rfl) (HV.as rfl) ?_
  refine AL.nx ?_
  refine AW.ret ?_
  refine post_ct rfl rfl rfl va31 hb118 ?_ (.inr rfl)
  exact ⟨⟨_, _, B85, rfl, ho113.okk (fun b hb _ => ⟨Nat.le_trans o78 hb.1.1, hb.1.2⟩), ho114.okk (fun b hb _ => ⟨Nat.le_trans o78 hb.1.1, hb.1.2⟩)⟩, X107⟩

set_option maxRecDepth 100000 in
theorem specBS_ok {vo v : Value} {o : List Int} {l : List (List Int)} {oko ok : Nat → Prop} (n p k : Int) (ho : RdK kI W H oko vo o) (hr : RdK (kR kI) W H ok v l) {vo2 v2 : Value} {o2 : List Int} {l2 : List (List Int)} {oko2 ok2 : Nat → Prop} (n2 p2 k2 : Int) (ho2 : RdK kI W H oko2 vo2 o2) (hr2 : RdK (kR kI) W H ok2 v2 l2) : ACalls Try.prog W 14 #[.agg #[.int .i64 n, vo, .int .i64 p, .int .i64 k, v], .agg #[.int .i64 n2, vo2, .int .i64 p2, .int .i64 k2, v2]] H (fun r H' => (∃ (u v : Value) (B : Nat), r = .tuple #[.agg #[.int .i64 (zI (bsC n o p k l n2 o2 p2 k2 l2) n), u, .int .i64 (zI (bsC n o p k l n2 o2 p2 k2 l2) p), .int .i64 (zI (bsC n o p k l n2 o2 p2 k2 l2) (k + k2)), v], .int .i64 (bsC n o p k l n2 o2 p2 k2 l2)] ∧ OwnK kI 2 W H' (fun b => H.bd ≤ b ∧ b < B) u (zL (bsC n o p k l n2 o2 p2 k2 l2) (o ++ o2)) ∧ OwnD (kO 2 kI) 22 W H' (fun b => H.bd ≤ b ∧ B ≤ b) v (zL (bsC n o p k l n2 o2 p2 k2 l2) (joL p k k2 l l2))) ∧ Ext H H') := by
  refine ACalls.of (args := [.agg #[.int .i64 n, vo, .int .i64 p, .int .i64 k, v], .agg #[.int .i64 n2, vo2, .int .i64 p2, .int .i64 k2, v2]]) Try.func14 rfl rfl ?_
  have X0 := Ext.refl H
  have hm1 := ho.max
  have hm2 := hr.max
  have hm3 := ho2.max
  have hm4 := hr2.max
  have hmx := hr.max
  have hmx2 := hr2.max
  refine AW.rs ?_
  refine AL.w rfl (.inl rfl) (WV.bx rfl rfl) ?_
  rintro _ H6 ⟨b5, rfl, hx7, hn8, hb9⟩
  have o10 := Nat.le_trans X0.bd hn8
  have X11 := Ext.trans X0 hx7
  have X12 := Ext.refl H6
  refine AL.w rfl (.inl rfl) (WV.bx rfl rfl) ?_
  rintro _ H14 ⟨b13, rfl, hx15, hn16, hb17⟩
  have o18 := Nat.le_trans X11.bd hn16
  have o19 := Nat.le_trans X12.bd hn16
  have ne20 : b5 ≠ b13 := by have := hb9.lt; omega
  have X21 := Ext.trans X11 hx15
  have X22 := Ext.trans X12 hx15
  have hb23 := hb9.ext hx15
  have X24 := Ext.refl H14
  refine AL.w rfl (.inl rfl) (WV.al ze31 rfl) ?_
  rintro _ H26 ⟨b25, rfl, hx27, hn28, hb29⟩
  have o30 := Nat.le_trans X21.bd hn28
  have o31 := Nat.le_trans X22.bd hn28
  have o32 := Nat.le_trans X24.bd hn28
  have ne33 : b5 ≠ b25 := by have := hb23.lt; omega
  have ne34 : b13 ≠ b25 := by have := hb17.lt; omega
  have X35 := Ext.trans X21 hx27
  have X36 := Ext.trans X22 hx27
  have X37 := Ext.trans X24 hx27
  have hb38 := hb23.ext hx27
  have hb39 := hb17.ext hx27
  have X40 := Ext.refl H26
  refine AL.val rfl (.inl rfl) (HV.as rfl) ?_
  refine AL.nx ?_
  refine AW.seq ?_
  refine AW.rs ?_
  refine AL.w rfl (.inl rfl) (WV.call fn59 rfl (l04Pair_ok n p k (ho.ext X35) (hr.ext X35) (at_cells hb38 rfl) n2 p2 k2 (ho2.ext X35) (hr2.ext X35) (at_cells hb39 rfl))) ?_
  rintro _ H41 ⟨rfl, hx42⟩
  have X43 := Ext.trans X35 hx42
  have X44 := Ext.trans X36 hx42
  have X45 := Ext.trans X37 hx42
  have X46 := Ext.trans X40 hx42
  have hb47 := hb38.ext hx42
  have hb48 := hb39.ext hx42
  have hb49 := hb29.ext hx42
  refine AL.val rfl (.inl rfl) (HV.as rfl) ?_
  refine AL.nx ?_
  refine AW.rs ?_
  refine AL.val rfl (.inl rfl) (HV.mv rfl) ?_
  refine AL.val rfl (.inl rfl) (HV.nei rfl rfl) ?_
  refine AL.nx ?_
  refine AW.ifd rfl (fun c50 => ?_) (fun c50 => ?_)
  · -- then
    refine AW.rs ?_
    refine AL.val rfl (.inl rfl) (HV.bd rfl (bd31_ )) ?_
    refine AL.val rfl (.inl rfl) (HV.mv rfl) ?_
    refine AL.w0 (.inl rfl) (WV.st rfl rfl va31 rfl hb49 (Nat.le_of_ble_eq_true rfl) (one_cons rfl (one_cons (sl_one1 ⟨none, 0, rfl⟩) (one_cons rfl (one_cons rfl (one_cons (sl_one1 ⟨none, 0, rfl⟩) one_nil)))))) ?_
    rintro _ H51 ⟨hx52, hb53⟩
    have X54 := Ext.thru X43 hx52 (fun z_ hz_ => by rw [hz_]; exact o30)
    have X55 := Ext.thru X44 hx52 (fun z_ hz_ => by rw [hz_]; exact o31)
    have X56 := Ext.thru X45 hx52 (fun z_ hz_ => by rw [hz_]; exact o32)
    have q58 := Nat.le_trans X46.bd hx52.bd
    have hb59 := hb47.but hx52 ne33
    have hb60 := hb48.but hx52 ne34
    have hb61 : At W H51 b25 ⟨31, [.int .i64 0, (.slice none 0 0), .int .i64 0, .int .i64 0, (.slice none 0 0)], 5⟩ := hb53
    refine AL.val rfl (.inl rfl) (HV.as rfl) ?_
    refine AL.nx ?_
    refine AW.ret ?_
    refine ret_and ?_
    refine post_ct rfl rfl rfl va31 hb61 ?_ (.inr rfl)
    have hC := bsC_p (by assumption); have hC0 : bsC n o p k l n2 o2 p2 k2 l2 ≠ 0 := (by omega); exact ⟨⟨.slice none 0 0, .slice none 0 0, 0, by rw [zI_no hC0, zI_no hC0, zI_no hC0, hC] <;> rfl, by rw [zL_no hC0]; exact OwnK.nil _, by rw [zL_no hC0]; exact OwnD.nil _⟩, X54⟩
  · -- else
    refine AW.skip ?_
    refine nrm_and ?_
    refine AW.rs ?_
    have hwz : prC n o p k l n2 o2 p2 k2 l2 = 0 := by omega
    obtain ⟨hok, hok2, hnn, hpp⟩ := prC_z hwz
    have hF := okSc_f hok
    have hG := okSc_f hok2
    have hp := hF.pb
    have hk1 := hF.k1
    have hk0 := hF.k0
    have hk2 := hG.k1
    have hk3 := hG.k0
    have hFR := hF.R
    have hGR := hG.R
    have hFo := hF.ol
    have hGo := hG.ol
    have hmx := hr.max
    have hmx2 := hr2.max
    refine AL.val rfl (.inl rfl) (HV.fa fl31_2 rfl) ?_
    refine AL.val rfl (.inl rfl) (HV.fa fl29_0 rfl) ?_
    refine AL.val rfl (.inl rfl) (HV.ld rfl va2 (at_cell_add (j := 2) hb47 rfl)) ?_
    refine AL.val rfl (.inl rfl) (HV.as rfl) ?_
    refine AL.nx ?_
    refine AW.rs ?_
    have X62 := Ext.refl H41
    have y63 := hb47.lt
    have y64 := hb48.lt
    have y65 := hb49.lt
    have o66 := X43.bd
    have o67 := X44.bd
    have o68 := X45.bd
    have o69 := X46.bd
    have o70 := X62.bd
    refine AL.w rfl (.inl rfl) (WV.bsK (K := (kO 2 kI)) (l := ([] : List (List Int))) (css := []) sl23 rfl rfl (by first | rfl | (simp [Instr.fill, Value.cells, kI, kB, kU, kU8, kS, Kd.sc]; done) | (simp [Instr.fill, Value.cells, kI, kB, kU, kU8, kS, Kd.sc, rng1, rng2, rng3, rng4, kP])) rfl segs_nil) ?_
    rintro v71 H72 ⟨hx73, ho74⟩
    have X75 := Ext.trans X43 hx73
    have X76 := Ext.trans X44 hx73
    have X77 := Ext.trans X45 hx73
    have X78 := Ext.trans X46 hx73
    have X79 := Ext.trans X62 hx73
    have hb80 := hb47.ext hx73
    have hb81 := hb48.ext hx73
    have hb82 := hb49.ext hx73
    have ho83 := ho74.deep0
    refine AL.val rfl (.inl rfl) (HV.as rfl) ?_
    refine AL.nx ?_
    refine AW.rs ?_
    have X85 := Ext.refl H72
    have y86 := hb80.lt
    have y87 := hb81.lt
    have y88 := hb82.lt
    have o89 := X75.bd
    have o90 := X76.bd
    have o91 := X77.bd
    have o92 := X78.bd
    have o93 := X79.bd
    have o94 := X85.bd
    have a95 := ho83.ltb
    have ho96 := ho83.okk (ok' := fun b => H41.bd ≤ b ∧ b < H72.bd) (fun b hb hlt => ⟨hb, hlt⟩)
    refine AL.w rfl (.inl rfl) (WV.bsK (K := (kO 2 kI)) (l := ([] : List (List Int))) (css := []) sl23 rfl rfl (by first | rfl | (simp [Instr.fill, Value.cells, kI, kB, kU, kU8, kS, Kd.sc]; done) | (simp [Instr.fill, Value.cells, kI, kB, kU, kU8, kS, Kd.sc, rng1, rng2, rng3, rng4, kP])) rfl segs_nil) ?_
    rintro v97 H98 ⟨hx99, ho100⟩
    have X101 := Ext.trans X75 hx99
    have X102 := Ext.trans X76 hx99
    have X103 := Ext.trans X77 hx99
    have X104 := Ext.trans X78 hx99
    have X105 := Ext.trans X79 hx99
    have X106 := Ext.trans X85 hx99
    have ho107 := ho96.ext hx99
    have hb108 := hb80.ext hx99
    have hb109 := hb81.ext hx99
    have hb110 := hb82.ext hx99
    have ho111 := ho100.deep0
    refine AL.val rfl (.inl rfl) (HV.as rfl) ?_
    refine AL.nx ?_
    refine AW.seq ?_
    refine AW.rs ?_
    have X113 := Ext.refl H98
    have y115 : H72.bd ≤ H98.bd := X106.bd
    have ho114 := ho107.okk (ok' := fun b => (H41.bd ≤ b ∧ (b < H72.bd ∨ H98.bd ≤ b))) (fun b hb hlt => ⟨hb.1, .inl hb.2⟩)
    have ho116 := ho111.okk (ok' := fun b => H72.bd ≤ b ∧ b < H98.bd) (fun b hb hlt => ⟨hb, hlt⟩)
    refine AL.val rfl (.inl rfl) (HV.as rfl) ?_
    refine AL.nx ?_
    refine AW.block ?_
    refine AW.loop (σ := Nat × Value) (fun ⟨i, vh⟩ => [(2, .pointer (some ⟨b5, 0, none⟩)), (3, .pointer (some ⟨b13, 0, none⟩)), (4, .pointer (some ⟨b25, 0, none⟩)), (5, .int .i64 0), (7, .int .i64 p), (9, v97), (8, vh), (10, .int .i64 (i : Int))]) (fun ⟨i, vh⟩ H' => Ext H H' ∧ Ext H6 H' ∧ Ext H14 H' ∧ Ext H26 H' ∧ Ext H41 H' ∧ At W H' b5 ⟨31, [.int .i64 n, vo, .int .i64 p, .int .i64 k, v], 5⟩ ∧ At W H' b13 ⟨31, [.int .i64 n2, vo2, .int .i64 p2, .int .i64 k2, v2], 5⟩ ∧ At W H' b25 ⟨31, [.int .i64 0, (.slice none 0 0), .int .i64 0, .int .i64 0, (.slice none 0 0)], 5⟩ ∧ H72.bd ≤ H'.bd ∧ H98.bd ≤ H'.bd ∧ i ≤ o.length ∧ OwnD (kO 2 kI) 22 W H' (fun b => (H41.bd ≤ b ∧ (b < H72.bd ∨ H98.bd ≤ b))) vh (mapR (hdA l) i) ∧ OwnD (kO 2 kI) 22 W H' (fun b => H72.bd ≤ b ∧ b < H98.bd) v97 ([] : List (List Int)) ∧ True) (fun ⟨i, vh⟩ => o.length - i) (0, v71) ⟨X101, X102, X103, X104, X105, hb108, hb109, hb110, X106.bd, X113.bd, Nat.zero_le _, ho114, ho116, trivial⟩ ⟨rfl, rfl, rfl, rfl, rfl, rfl, rfl, rfl, trivial⟩ ?_
    rintro ⟨i, vh⟩ H117 ⟨X118, X119, X120, X121, X122, hb123, hb124, hb125, q126, q127, hi, hoH, hoT, _⟩
    refine AW.seq ?_
    refine AW.rs ?_
    refine AL.val rfl (.inl rfl) (HV.mv rfl) ?_
    refine AL.val rfl (.inl rfl) (HV.fa fl31_1 rfl) ?_
    refine AL.val rfl (.inl rfl) (HV.ld rfl va22 (at_cell_add (j := 1) hb123 rfl)) ?_
    refine AL.val rfl (.inl rfl) (HV.len Try.underlying22 rfl ho.isSl) ?_
    refine AL.val rfl (.inl rfl) (HV.lti rfl rfl) ?_
    refine AL.nx ?_
    refine AW.ifd rfl (fun c128 => ?_) (fun c128 => ?_)
    · -- then
      refine AW.skip ?_
      refine nrm_and ?_
      refine AW.seq ?_
      refine AW.block ?_
      refine AW.reg ?_
      refine AL.val rfl (.inl rfl) (HV.mv rfl) ?_
      refine AL.val rfl (.inl rfl) (HV.fa fl31_2 rfl) ?_
      refine AL.val rfl (.inl rfl) (HV.fa fl29_2 rfl) ?_
      refine AL.val rfl (.inl rfl) (HV.ld rfl va23 (at_cell_add (j := 4) hb123 rfl)) ?_
      refine AL.val rfl (.inl rfl) (HV.mv rfl) ?_
      obtain ⟨p129, z130, cs131, hz132, hK133, hC134, hP135⟩ := RdK.ix (q := (i : Int)) hr sl23 (by omega) (by omega)
      obtain ⟨v136, rfl, hr137⟩ := hK133
      have hm138 := hr137.max
      refine AL.val rfl (.inl rfl) (hP135 rfl rfl) ?_
      refine AL.val rfl (.inl rfl) (HV.ld rfl va22 (cells_first (hC134.ext X118) rfl)) ?_
      have q2 := (rect_at hF.r hz132).1
      have q3 : l.getD i [] = z130 := gd hz132 rfl
      obtain ⟨p139, z140, cs141, hz142, hK143, hC144, hP145⟩ := RdK.ix (q := 0) hr137 sl22 (by omega) (by omega)
      obtain rfl : cs141 = [.int .i64 z140] := hK143
      refine AL.val rfl (.inl rfl) (hP145 rfl rfl) ?_
      refine AL.val rfl (.inl rfl) (HV.ld rfl va2 (cells_first (hC144.ext X118) rfl)) ?_
      have X146 := Ext.refl H117
      have y147 := hb123.lt
      have y148 := hb124.lt
      have y149 := hb125.lt
      have o150 := X118.bd
      have o151 := X119.bd
      have o152 := X120.bd
      have o153 := X121.bd
      have o154 := X122.bd
      have o155 := X146.bd
      have a156 := hoH.ltb
      have ho157 := hoH.okk (ok' := fun b => (H41.bd ≤ b ∧ (b < H72.bd ∨ H98.bd ≤ b)) ∧ b < H117.bd) (fun b hb hlt => ⟨hb, hlt⟩)
      have a158 := hoT.ltb
      refine AL.w rfl (.inl rfl) (WV.bsK (K := kI) (l := ([0, z140] : List Int)) (css := [[.int .i64 0], [.int .i64 z140]]) sl22 rfl rfl (by first | rfl | (simp [Instr.fill, Value.cells, kI, kB, kU, kU8, kS, Kd.sc]; done) | (simp [Instr.fill, Value.cells, kI, kB, kU, kU8, kS, Kd.sc, rng1, rng2, rng3, rng4, kP])) rfl (segs_cons rfl (segs_cons rfl segs_nil))) ?_
      rintro v159 H160 ⟨hx161, ho162⟩
      have q163 := Nat.le_trans q126 hx161.bd
      have q164 := Nat.le_trans q127 hx161.bd
      have X165 := Ext.trans X118 hx161
      have X166 := Ext.trans X119 hx161
      have X167 := Ext.trans X120 hx161
      have X168 := Ext.trans X121 hx161
      have X169 := Ext.trans X122 hx161
      have X170 := Ext.trans X146 hx161
      have ho171 := ho157.ext hx161
      have ho172 := hoT.ext hx161
      have hb173 := hb123.ext hx161
      have hb174 := hb124.ext hx161
      have hb175 := hb125.ext hx161
      have X177 := Ext.refl H160
      have y178 := hb173.lt
      have y179 := hb174.lt
      have y180 := hb175.lt
      have o181 := X165.bd
      have o182 := X166.bd
      have o183 := X167.bd
      have o184 := X168.bd
      have o185 := X169.bd
      have o186 := X170.bd
      have o187 := X177.bd
      have a188 := ho171.ltb
      have a189 := ho172.ltb
      have a190 := ho162.ltb
      have hc195 : v159.cells = #[v159] := by obtain ⟨A, c, e⟩ := ho162.isSl; rw [e]; rfl
      refine AL.w rfl (.inl rfl) (WV.bsO (okx := fun b => H117.bd ≤ b) (K := (kO 2 kI)) (l := ([(([0, z140] : List Int) : List Int)] : List (List Int))) (css := [[v159]]) sl23 rfl rfl (by simp [Instr.fill, hc195, kO, rng1]) rfl (segs_cons ⟨_, rfl, ho162⟩ segs_nil)) ?_
      rintro v191 H192 ⟨hx193, ho194⟩
      have q197 := Nat.le_trans q163 hx193.bd
      have q198 := Nat.le_trans q164 hx193.bd
      have X199 := Ext.trans X165 hx193
      have X200 := Ext.trans X166 hx193
      have X201 := Ext.trans X167 hx193
      have X202 := Ext.trans X168 hx193
      have X203 := Ext.trans X169 hx193
      have X204 := Ext.trans X170 hx193
      have X205 := Ext.trans X177 hx193
      have ho206 := ho171.ext hx193
      have ho207 := ho172.ext hx193
      have ho208 := ho162.ext hx193
      have hb209 := hb173.ext hx193
      have hb210 := hb174.ext hx193
      have hb211 := hb175.ext hx193
      have ho196 := ho194.okk (ok' := fun b => H117.bd ≤ b) (fun b hb _ => hb.elim id (fun e => Nat.le_trans X170.bd e))
      have X213 := Ext.refl H192
      refine AL.w rfl (.inl rfl) (WV.apD (ok := fun b => (H41.bd ≤ b ∧ (b < H72.bd ∨ H98.bd ≤ b))) (B := H117.bd) sl23 rfl rfl ho206 ho196.rd X204.bd (by rw [mapR_len]; omega) (by rw [mapR_len]; omega)) ?_
      rintro v214 H215 ⟨hx216, ho217, hb218⟩
      have ho219 := ho217.okk (ok' := fun b => (H41.bd ≤ b ∧ (b < H72.bd ∨ H98.bd ≤ b))) (fun b hb _ => hb.elim id (fun e => by have h1 : H117.bd ≤ b := e; exact ⟨by omega, by omega⟩))
      have q220 := Nat.le_trans q197 hx216.bd
      have q221 := Nat.le_trans q198 hx216.bd
      have X222 := Ext.thru X199 hx216 (fun b hb => Nat.le_trans o66 (ho206.blk b hb).1.1.1)
      have X223 := Ext.thru X200 hx216 (fun b hb => Nat.le_trans o67 (ho206.blk b hb).1.1.1)
      have X224 := Ext.thru X201 hx216 (fun b hb => Nat.le_trans o68 (ho206.blk b hb).1.1.1)
      have X225 := Ext.thru X202 hx216 (fun b hb => Nat.le_trans o69 (ho206.blk b hb).1.1.1)
      have X226 := Ext.thru X203 hx216 (fun b hb => Nat.le_trans o70 (ho206.blk b hb).1.1.1)
      have q228 := Nat.le_trans X204.bd hx216.bd
      have q230 := Nat.le_trans X205.bd hx216.bd
      have q232 := Nat.le_trans X213.bd hx216.bd
      have ho233 := ho207.but hx216 (fun b hb _ e => by have h1 : H72.bd ≤ b ∧ b < H98.bd := hb; have h2 : (H41.bd ≤ b ∧ (b < H72.bd ∨ H98.bd ≤ b)) ∧ b < H117.bd := (ho206.blk b e).1; omega) (fun b hb => (ho206.blk b hb).2.2)
      have ho234 := ho196.but hx216 (fun b hb _ e => by have h1 : H117.bd ≤ b := hb; have h2 : (H41.bd ≤ b ∧ (b < H72.bd ∨ H98.bd ≤ b)) ∧ b < H117.bd := (ho206.blk b e).1; omega) (fun b hb => (ho206.blk b hb).2.2)
      have hb235 := hb209.but hx216 (fun e => by have q : H41.bd ≤ _ := (ho206.blk _ e).1.1.1; omega)
      have hb236 := hb210.but hx216 (fun e => by have q : H41.bd ≤ _ := (ho206.blk _ e).1.1.1; omega)
      have hb237 := hb211.but hx216 (fun e => by have q : H41.bd ≤ _ := (ho206.blk _ e).1.1.1; omega)
      refine AL.val rfl (.inl rfl) (HV.as rfl) ?_
      refine AL.nil ?_
      refine nrm_blk (nrm_and ?_)
      refine AW.reg ?_
      refine AL.val rfl (.inl rfl) (HV.mv rfl) ?_
      refine AL.val rfl (.inl rfl) (HV.add rfl rfl (by omega)) ?_
      refine AL.val rfl (.inl rfl) (HV.as rfl) ?_
      refine AL.nil ?_
      refine nrm_and ?_
      exact ⟨(i + 1, v214), ⟨X222, X223, X224, X225, X226, hb235, hb236, hb237, q220, q221, by omega, by rw [mapR_succ, show hdA l i = [0, z140] by unfold hdA; rw [q3, (gd hz142 rfl : z130.getD 0 0 = z140)]]; exact ho219, ho233, trivial⟩, by first | omega | (dsimp only; omega), ⟨rfl, rfl, rfl, rfl, rfl, rfl, rfl, rfl, trivial⟩⟩
    · -- else
      refine AW.exit ?_
      refine ex_and (ex_and (ex_blk ?_))
      refine nrm_and ?_
      refine AW.seq ?_
      refine AW.rs ?_
      have X238 := Ext.refl H117
      have hr239 : RdK (kR kI) W H117 (fun b => (H41.bd ≤ b ∧ (b < H72.bd ∨ H98.bd ≤ b)) ∧ b < H117.bd) vh (mapR (hdA l) l.length) := by rw [show l.length = i by omega]; exact (rd_ofO hoH.rd).okk (fun b hb hlt => ⟨hb, hlt⟩)
      have ho240 := hoT.okk (ok' := fun b => (H72.bd ≤ b ∧ (b < H98.bd ∨ H117.bd ≤ b))) (fun b hb hlt => ⟨hb.1, .inl hb.2⟩)
      have y241 : H98.bd ≤ H117.bd := q127
      refine AL.val rfl (.inl rfl) (HV.as rfl) ?_
      refine AL.nx ?_
      refine AW.block ?_
      refine AW.loop (σ := Nat × Value) (fun ⟨j, vt⟩ => [(2, .pointer (some ⟨b5, 0, none⟩)), (3, .pointer (some ⟨b13, 0, none⟩)), (4, .pointer (some ⟨b25, 0, none⟩)), (5, .int .i64 0), (7, .int .i64 p), (8, vh), (9, vt), (11, .int .i64 (j : Int))]) (fun ⟨j, vt⟩ H' => Ext H H' ∧ Ext H6 H' ∧ Ext H14 H' ∧ Ext H26 H' ∧ Ext H41 H' ∧ At W H' b5 ⟨31, [.int .i64 n, vo, .int .i64 p, .int .i64 k, v], 5⟩ ∧ At W H' b13 ⟨31, [.int .i64 n2, vo2, .int .i64 p2, .int .i64 k2, v2], 5⟩ ∧ At W H' b25 ⟨31, [.int .i64 0, (.slice none 0 0), .int .i64 0, .int .i64 0, (.slice none 0 0)], 5⟩ ∧ H72.bd ≤ H'.bd ∧ H117.bd ≤ H'.bd ∧ RdK (kR kI) W H' (fun b => (H41.bd ≤ b ∧ (b < H72.bd ∨ H98.bd ≤ b)) ∧ b < H117.bd) vh (mapR (hdA l) l.length) ∧ j ≤ o2.length ∧ OwnD (kO 2 kI) 22 W H' (fun b => (H72.bd ≤ b ∧ (b < H98.bd ∨ H117.bd ≤ b))) vt (mapR (hdB p l2) j) ∧ True) (fun ⟨j, vt⟩ => o2.length - j) (0, v97) ⟨X118, X119, X120, X121, X122, hb123, hb124, hb125, q126, X238.bd, hr239, Nat.zero_le _, ho240, trivial⟩ ⟨rfl, rfl, rfl, rfl, rfl, rfl, rfl, rfl, trivial⟩ ?_
      rintro ⟨j, vt⟩ H242 ⟨X243, X244, X245, X246, X247, hb248, hb249, hb250, q251, q252, ho253, hj, hoT2, _⟩
      refine AW.seq ?_
      refine AW.rs ?_
      refine AL.val rfl (.inl rfl) (HV.mv rfl) ?_
      refine AL.val rfl (.inl rfl) (HV.fa fl31_1 rfl) ?_
      refine AL.val rfl (.inl rfl) (HV.ld rfl va22 (at_cell_add (j := 1) hb249 rfl)) ?_
      refine AL.val rfl (.inl rfl) (HV.len Try.underlying22 rfl ho2.isSl) ?_
      refine AL.val rfl (.inl rfl) (HV.lti rfl rfl) ?_
      refine AL.nx ?_
      refine AW.ifd rfl (fun c254 => ?_) (fun c254 => ?_)
      · -- then
        refine AW.skip ?_
        refine nrm_and ?_
        refine AW.seq ?_
        refine AW.block ?_
        refine AW.rs ?_
        refine AL.val rfl (.inl rfl) (HV.fa fl31_2 rfl) ?_
        refine AL.val rfl (.inl rfl) (HV.fa fl29_2 rfl) ?_
        refine AL.val rfl (.inl rfl) (HV.ld rfl va23 (at_cell_add (j := 4) hb249 rfl)) ?_
        refine AL.val rfl (.inl rfl) (HV.mv rfl) ?_
        obtain ⟨p255, z256, cs257, hz258, hK259, hC260, hP261⟩ := RdK.ix (q := (j : Int)) hr2 sl23 (by omega) (by omega)
        obtain ⟨v262, rfl, hr263⟩ := hK259
        have hm264 := hr263.max
        refine AL.val rfl (.inl rfl) (hP261 rfl rfl) ?_
        refine AL.val rfl (.inl rfl) (HV.ld rfl va22 (cells_first (hC260.ext X243) rfl)) ?_
        have q1 := rect_at hG.r hz258
        have q2 := q1.1
        have q3 : l2.getD j [] = z256 := gd hz258 rfl
        obtain ⟨p265, z266, cs267, hz268, hK269, hC270, hP271⟩ := RdK.ix (q := 0) hr263 sl22 (by omega) (by omega)
        obtain rfl : cs267 = [.int .i64 z266] := hK269
        refine AL.val rfl (.inl rfl) (hP271 rfl rfl) ?_
        refine AL.val rfl (.inl rfl) (HV.ld rfl va2 (cells_first (hC270.ext X243) rfl)) ?_
        refine AL.val rfl (.inl rfl) (HV.as rfl) ?_
        refine AL.nx ?_
        refine AW.reg ?_
        refine AL.val rfl (.inl rfl) (HV.mv rfl) ?_
        refine AL.val rfl (.inl rfl) (HV.mv rfl) ?_
        refine AL.val rfl (.inl rfl) (HV.mv rfl) ?_
        refine AL.val rfl (.inl rfl) (HV.mv rfl) ?_
        have q4 := elem_at q1.2 hz268
        refine AL.val rfl (.inl rfl) (HV.sub rfl rfl (by omega)) ?_
        refine AL.val rfl (.inl rfl) (HV.mv rfl) ?_
        refine AL.val rfl (.inl rfl) (HV.rem rfl rfl (by omega)) ?_
        have X272 := Ext.refl H242
        have y273 := hb248.lt
        have y274 := hb249.lt
        have y275 := hb250.lt
        have o276 := X243.bd
        have o277 := X244.bd
        have o278 := X245.bd
        have o279 := X246.bd
        have o280 := X247.bd
        have o281 := X272.bd
        have a282 := hoT2.ltb
        have ho283 := hoT2.okk (ok' := fun b => (H72.bd ≤ b ∧ (b < H98.bd ∨ H117.bd ≤ b)) ∧ b < H242.bd) (fun b hb hlt => ⟨hb, hlt⟩)
        refine AL.w rfl (.inl rfl) (WV.bsK (K := kI) (l := ([z266, (p - z266) % p] : List Int)) (css := [[.int .i64 z266], [.int .i64 ((p - z266) % p)]]) sl22 rfl rfl (by first | rfl | (simp [Instr.fill, Value.cells, kI, kB, kU, kU8, kS, Kd.sc]; done) | (simp [Instr.fill, Value.cells, kI, kB, kU, kU8, kS, Kd.sc, rng1, rng2, rng3, rng4, kP])) rfl (segs_cons rfl (segs_cons rfl segs_nil))) ?_
        rintro v284 H285 ⟨hx286, ho287⟩
        have q288 := Nat.le_trans q251 hx286.bd
        have q289 := Nat.le_trans q252 hx286.bd
        have X290 := Ext.trans X243 hx286
        have X291 := Ext.trans X244 hx286
        have X292 := Ext.trans X245 hx286
        have X293 := Ext.trans X246 hx286
        have X294 := Ext.trans X247 hx286
        have X295 := Ext.trans X272 hx286
        have ho296 := ho283.ext hx286
        have ho297 := ho253.ext hx286
        have hb298 := hb248.ext hx286
        have hb299 := hb249.ext hx286
        have hb300 := hb250.ext hx286
        have X302 := Ext.refl H285
        have y303 := hb298.lt
        have y304 := hb299.lt
        have y305 := hb300.lt
        have o306 := X290.bd
        have o307 := X291.bd
        have o308 := X292.bd
        have o309 := X293.bd
        have o310 := X294.bd
        have o311 := X295.bd
        have o312 := X302.bd
        have a313 := ho296.ltb
        have a314 := ho287.ltb
        have hc319 : v284.cells = #[v284] := by obtain ⟨A, c, e⟩ := ho287.isSl; rw [e]; rfl
        refine AL.w rfl (.inl rfl) (WV.bsO (okx := fun b => H242.bd ≤ b) (K := (kO 2 kI)) (l := ([(([z266, (p - z266) % p] : List Int) : List Int)] : List (List Int))) (css := [[v284]]) sl23 rfl rfl (by simp [Instr.fill, hc319, kO, rng1]) rfl (segs_cons ⟨_, rfl, ho287⟩ segs_nil)) ?_
        rintro v315 H316 ⟨hx317, ho318⟩
        have q321 := Nat.le_trans q288 hx317.bd
        have q322 := Nat.le_trans q289 hx317.bd
        have X323 := Ext.trans X290 hx317
        have X324 := Ext.trans X291 hx317
        have X325 := Ext.trans X292 hx317
        have X326 := Ext.trans X293 hx317
        have X327 := Ext.trans X294 hx317
        have X328 := Ext.trans X295 hx317
        have X329 := Ext.trans X302 hx317
        have ho330 := ho296.ext hx317
        have ho331 := ho297.ext hx317
        have ho332 := ho287.ext hx317
        have hb333 := hb298.ext hx317
        have hb334 := hb299.ext hx317
        have hb335 := hb300.ext hx317
        have ho320 := ho318.okk (ok' := fun b => H242.bd ≤ b) (fun b hb _ => hb.elim id (fun e => Nat.le_trans X295.bd e))
        have X337 := Ext.refl H316
        refine AL.w rfl (.inl rfl) (WV.apD (ok := fun b => (H72.bd ≤ b ∧ (b < H98.bd ∨ H117.bd ≤ b))) (B := H242.bd) sl23 rfl rfl ho330 ho320.rd X328.bd (by rw [mapR_len]; omega) (by rw [mapR_len]; omega)) ?_
        rintro v338 H339 ⟨hx340, ho341, hb342⟩
        have ho343 := ho341.okk (ok' := fun b => (H72.bd ≤ b ∧ (b < H98.bd ∨ H117.bd ≤ b))) (fun b hb _ => hb.elim id (fun e => by have h1 : H242.bd ≤ b := e; exact ⟨by omega, by omega⟩))
        have q344 := Nat.le_trans q321 hx340.bd
        have q345 := Nat.le_trans q322 hx340.bd
        have X346 := Ext.thru X323 hx340 (fun b hb => Nat.le_trans o89 (ho330.blk b hb).1.1.1)
        have X347 := Ext.thru X324 hx340 (fun b hb => Nat.le_trans o90 (ho330.blk b hb).1.1.1)
        have X348 := Ext.thru X325 hx340 (fun b hb => Nat.le_trans o91 (ho330.blk b hb).1.1.1)
        have X349 := Ext.thru X326 hx340 (fun b hb => Nat.le_trans o92 (ho330.blk b hb).1.1.1)
        have X350 := Ext.thru X327 hx340 (fun b hb => Nat.le_trans o93 (ho330.blk b hb).1.1.1)
        have q352 := Nat.le_trans X328.bd hx340.bd
        have q354 := Nat.le_trans X329.bd hx340.bd
        have q356 := Nat.le_trans X337.bd hx340.bd
        have ho357 := ho331.but hx340 (fun b hb _ e => by have h1 : (H41.bd ≤ b ∧ (b < H72.bd ∨ H98.bd ≤ b)) ∧ b < H117.bd := hb; have h2 := (ho330.blk b e).1; omega) (fun b hb => (ho330.blk b hb).2.2)
        have ho358 := ho320.but hx340 (fun b hb _ e => by have h1 : H242.bd ≤ b := hb; have h2 : (H72.bd ≤ b ∧ (b < H98.bd ∨ H117.bd ≤ b)) ∧ b < H242.bd := (ho330.blk b e).1; omega) (fun b hb => (ho330.blk b hb).2.2)
        have hb359 := hb333.but hx340 (fun e => by have q : H72.bd ≤ _ := (ho330.blk _ e).1.1.1; omega)
        have hb360 := hb334.but hx340 (fun e => by have q : H72.bd ≤ _ := (ho330.blk _ e).1.1.1; omega)
        have hb361 := hb335.but hx340 (fun e => by have q : H72.bd ≤ _ := (ho330.blk _ e).1.1.1; omega)
        refine AL.val rfl (.inl rfl) (HV.as rfl) ?_
        refine AL.nil ?_
        refine nrm_blk (nrm_and ?_)
        refine AW.reg ?_
        refine AL.val rfl (.inl rfl) (HV.mv rfl) ?_
        refine AL.val rfl (.inl rfl) (HV.add rfl rfl (by omega)) ?_
        refine AL.val rfl (.inl rfl) (HV.as rfl) ?_
        refine AL.nil ?_
        refine nrm_and ?_
        exact ⟨(j + 1, v338), ⟨X346, X347, X348, X349, X350, hb359, hb360, hb361, q344, q345, ho357, by omega, by rw [mapR_succ, show hdB p l2 j = [z266, (p - z266) % p] by unfold hdB; rw [q3, (gd hz268 rfl : z256.getD 0 0 = z266)]]; exact ho343, trivial⟩, by first | omega | (dsimp only; omega), ⟨rfl, rfl, rfl, rfl, rfl, rfl, rfl, rfl, trivial⟩⟩
      · -- else
        refine AW.exit ?_
        refine ex_and (ex_and (ex_blk ?_))
        refine nrm_and ?_
        refine AW.rs ?_
        have ho362 : OwnD (kO 2 kI) 22 W H242 (fun b => (H72.bd ≤ b ∧ (b < H98.bd ∨ H117.bd ≤ b))) vt (mapR (hdB p l2) l2.length) := by rw [show l2.length = j by omega]; exact hoT2
        refine AL.val rfl (.inl rfl) (HV.mv rfl) ?_
        refine AL.val rfl (.inl rfl) (HV.mv rfl) ?_
        have X363 := Ext.refl H242
        have y364 := hb248.lt
        have y365 := hb249.lt
        have y366 := hb250.lt
        have o367 := X243.bd
        have o368 := X244.bd
        have o369 := X245.bd
        have o370 := X246.bd
        have o371 := X247.bd
        have o372 := X363.bd
        have a373 := ho362.ltb
        have ho374 := ho362.okk (ok' := fun b => (H72.bd ≤ b ∧ (b < H98.bd ∨ H117.bd ≤ b)) ∧ b < H242.bd) (fun b hb hlt => ⟨hb, hlt⟩)
        refine AL.w rfl (.inl rfl) (WV.call fn60 rfl (l04Joined_ok n p k (ho.ext X243) (hr.ext X243) (at_cells hb248 rfl) n2 p2 k2 (ho2.ext X243) (hr2.ext X243) (at_cells hb249 rfl) ho253 (rd_ofO ho374.rd) hok hok2)) ?_
        rintro _ H378 ⟨⟨u375, v376, B377, rfl, ho380, ho381⟩, hx379⟩
        have q384 := Nat.le_trans q251 hx379.bd
        have q385 := Nat.le_trans q252 hx379.bd
        have X386 := Ext.trans X243 hx379
        have X387 := Ext.trans X244 hx379
        have X388 := Ext.trans X245 hx379
        have X389 := Ext.trans X246 hx379
        have X390 := Ext.trans X247 hx379
        have X391 := Ext.trans X363 hx379
        have ho392 := ho374.ext hx379
        have ho393 := ho253.ext hx379
        have hb394 := hb248.ext hx379
        have hb395 := hb249.ext hx379
        have hb396 := hb250.ext hx379
        have X397 := Ext.refl H378
        have hr382 := ho380.okk (ok' := fun b => (H242.bd ≤ b ∧ b < B377) ∧ b < H378.bd) (fun b hb hlt => ⟨hb, hlt⟩)
        have hr383 := ho381.okk (ok' := fun b => (H242.bd ≤ b ∧ B377 ≤ b) ∧ b < H378.bd) (fun b hb hlt => ⟨hb, hlt⟩)
        refine AL.val rfl (.inl rfl) (HV.mv rfl) ?_
        refine AL.val rfl (.inl rfl) (HV.ex rfl rfl) ?_
        refine AL.val rfl (.inl rfl) (HV.ex rfl rfl) ?_
        refine AL.w rfl (.inl rfl) (WV.al ze31 rfl) ?_
        rintro _ H401 ⟨b400, rfl, hx402, hn403, hb404⟩
        have o405 := Nat.le_trans X386.bd hn403
        have o406 := Nat.le_trans X387.bd hn403
        have o407 := Nat.le_trans X388.bd hn403
        have o408 := Nat.le_trans X389.bd hn403
        have o409 := Nat.le_trans X390.bd hn403
        have o410 := Nat.le_trans X391.bd hn403
        have o411 := Nat.le_trans X397.bd hn403
        have o412 := Nat.le_trans q384 hn403
        have o413 := Nat.le_trans q385 hn403
        have ne414 : b5 ≠ b400 := by have := hb394.lt; omega
        have ne415 : b13 ≠ b400 := by have := hb395.lt; omega
        have ne416 : b25 ≠ b400 := by have := hb396.lt; omega
        have q417 := Nat.le_trans q384 hx402.bd
        have q418 := Nat.le_trans q385 hx402.bd
        have X419 := Ext.trans X386 hx402
        have X420 := Ext.trans X387 hx402
        have X421 := Ext.trans X388 hx402
        have X422 := Ext.trans X389 hx402
        have X423 := Ext.trans X390 hx402
        have X424 := Ext.trans X391 hx402
        have X425 := Ext.trans X397 hx402
        have ho426 := hr382.ext hx402
        have ho427 := hr383.ext hx402
        have hb428 := hb394.ext hx402
        have hb429 := hb395.ext hx402
        have hb430 := hb396.ext hx402
        have X431 := Ext.refl H401
        refine AL.w0 (.inl rfl) (WV.st rfl rfl va31 rfl hb404 (Nat.le_of_ble_eq_true rfl) (one_cons rfl (one_cons (sl_one1 ho426.rd.isSl) (one_cons rfl (one_cons rfl (one_cons (sl_one1 (rd_ofO ho427.rd).isSl) one_nil)))))) ?_
        rintro _ H432 ⟨hx433, hb434⟩
        have q435 := Nat.le_trans q417 hx433.bd
        have q436 := Nat.le_trans q418 hx433.bd
        have X437 := Ext.thru X419 hx433 (fun z_ hz_ => by rw [hz_]; exact o405)
        have X438 := Ext.thru X420 hx433 (fun z_ hz_ => by rw [hz_]; exact o406)
        have X439 := Ext.thru X421 hx433 (fun z_ hz_ => by rw [hz_]; exact o407)
        have X440 := Ext.thru X422 hx433 (fun z_ hz_ => by rw [hz_]; exact o408)
        have X441 := Ext.thru X423 hx433 (fun z_ hz_ => by rw [hz_]; exact o409)
        have X442 := Ext.thru X424 hx433 (fun z_ hz_ => by rw [hz_]; exact o410)
        have X443 := Ext.thru X425 hx433 (fun z_ hz_ => by rw [hz_]; exact o411)
        have q445 := Nat.le_trans X431.bd hx433.bd
        have ho446 := ho426.but hx433 (fun b hb _ e => by have hb' : (H242.bd ≤ b ∧ b < B377) ∧ b < H378.bd := hb; have e' : b = b400 := e; omega) (fun z_ hz_ => by rw [hz_]; exact hb404.w)
        have ho447 := ho427.but hx433 (fun b hb _ e => by have hb' : (H242.bd ≤ b ∧ B377 ≤ b) ∧ b < H378.bd := hb; have e' : b = b400 := e; omega) (fun z_ hz_ => by rw [hz_]; exact hb404.w)
        have hb448 := hb428.but hx433 ne414
        have hb449 := hb429.but hx433 ne415
        have hb450 := hb430.but hx433 ne416
        have hb451 : At W H432 b400 ⟨31, [.int .i64 n, u375, .int .i64 p, .int .i64 0, v376], 5⟩ := hb434
        refine AL.val rfl (.inl rfl) (HV.as rfl) ?_
        refine AL.nx ?_
        refine AW.rs ?_
        refine AL.val rfl (.inl rfl) (HV.mv rfl) ?_
        have e76 : (2 + ((k - 1) + (k2 - 1))) = k + k2 := by omega
        refine AL.val rfl (.inl rfl) (HV.add rfl rfl (by omega)) ?_
        rw [e76]
        refine AL.val rfl (.inl rfl) (HV.fa fl31_2 rfl) ?_
        refine AL.val rfl (.inl rfl) (HV.fa fl29_1 rfl) ?_
        refine AL.w0 (.inl rfl) (WV.st rfl rfl va2 rfl hb451 (Nat.le_of_ble_eq_true rfl) (one_cons rfl one_nil)) ?_
        rintro _ H452 ⟨hx453, hb454⟩
        have q455 := Nat.le_trans q435 hx453.bd
        have q456 := Nat.le_trans q436 hx453.bd
        have q457 := Nat.le_trans q445 hx453.bd
        have X458 := Ext.thru X437 hx453 (fun z_ hz_ => by rw [hz_]; exact o405)
        have X459 := Ext.thru X438 hx453 (fun z_ hz_ => by rw [hz_]; exact o406)
        have X460 := Ext.thru X439 hx453 (fun z_ hz_ => by rw [hz_]; exact o407)
        have X461 := Ext.thru X440 hx453 (fun z_ hz_ => by rw [hz_]; exact o408)
        have X462 := Ext.thru X441 hx453 (fun z_ hz_ => by rw [hz_]; exact o409)
        have X463 := Ext.thru X442 hx453 (fun z_ hz_ => by rw [hz_]; exact o410)
        have X464 := Ext.thru X443 hx453 (fun z_ hz_ => by rw [hz_]; exact o411)
        have ho465 := ho446.but hx453 (fun b hb _ e => by have hb' : (H242.bd ≤ b ∧ b < B377) ∧ b < H378.bd := hb; have e' : b = b400 := e; omega) (fun z_ hz_ => by rw [hz_]; exact hb451.w)
        have ho466 := ho447.but hx453 (fun b hb _ e => by have hb' : (H242.bd ≤ b ∧ B377 ≤ b) ∧ b < H378.bd := hb; have e' : b = b400 := e; omega) (fun z_ hz_ => by rw [hz_]; exact hb451.w)
        have hb467 := hb448.but hx453 ne414
        have hb468 := hb449.but hx453 ne415
        have hb469 := hb450.but hx453 ne416
        have hb470 : At W H452 b400 ⟨31, [.int .i64 n, u375, .int .i64 p, .int .i64 (k + k2), v376], 5⟩ := hb454
        refine AL.nx ?_
        refine AW.rs ?_
        refine AL.val rfl (.inl rfl) (HV.lda (cs := [.int .i64 n, u375, .int .i64 p, .int .i64 (k + k2), v376]) rfl va31 (at_cells hb470 rfl)) ?_
        by_cases hJ : okSc n (o ++ o2) p (k + k2) (joL p k k2 l l2)
        · -- right
          refine AL.w rfl (.inl rfl) (WV.call fn61 rfl (l04Told_ok n p (k + k2) ho465.rd (rd_ofO ho466.rd))) ?_
          rintro _ H471 ⟨e473, hx472⟩
          rw [if_pos hJ] at e473
          subst e473
          have q474 := Nat.le_trans q455 hx472.bd
          have q475 := Nat.le_trans q456 hx472.bd
          have q476 := Nat.le_trans q457 hx472.bd
          have X477 := Ext.trans X458 hx472
          have X478 := Ext.trans X459 hx472
          have X479 := Ext.trans X460 hx472
          have X480 := Ext.trans X461 hx472
          have X481 := Ext.trans X462 hx472
          have X482 := Ext.trans X463 hx472
          have X483 := Ext.trans X464 hx472
          have ho484 := ho465.ext hx472
          have ho485 := ho466.ext hx472
          have hb486 := hb467.ext hx472
          have hb487 := hb468.ext hx472
          have hb488 := hb469.ext hx472
          have hb489 := hb470.ext hx472
          refine AL.val rfl (.inl rfl) (HV.ex rfl rfl) ?_
          refine AL.val rfl (.inl rfl) (HV.ex rfl rfl) ?_
          refine AL.w0 (.inl rfl) (WV.st rfl rfl va31 rfl hb488 (Nat.le_of_ble_eq_true rfl) (one_cons rfl (one_cons (sl_one1 ho484.rd.isSl) (one_cons rfl (one_cons rfl (one_cons (sl_one1 (rd_ofO ho485.rd).isSl) one_nil)))))) ?_
          rintro _ H490 ⟨hx491, hb492⟩
          have q493 := Nat.le_trans q474 hx491.bd
          have q494 := Nat.le_trans q475 hx491.bd
          have q495 := Nat.le_trans q476 hx491.bd
          have X496 := Ext.thru X477 hx491 (fun z_ hz_ => by rw [hz_]; exact o30)
          have X497 := Ext.thru X478 hx491 (fun z_ hz_ => by rw [hz_]; exact o31)
          have X498 := Ext.thru X479 hx491 (fun z_ hz_ => by rw [hz_]; exact o32)
          have q500 := Nat.le_trans X480.bd hx491.bd
          have q502 := Nat.le_trans X481.bd hx491.bd
          have q504 := Nat.le_trans X482.bd hx491.bd
          have q506 := Nat.le_trans X483.bd hx491.bd
          have ho507 := ho484.but hx491 (fun b hb _ e => by have hb' : (H242.bd ≤ b ∧ b < B377) ∧ b < H378.bd := hb; have e' : b = b25 := e; omega) (fun z_ hz_ => by rw [hz_]; exact hb488.w)
          have ho508 := ho485.but hx491 (fun b hb _ e => by have hb' : (H242.bd ≤ b ∧ B377 ≤ b) ∧ b < H378.bd := hb; have e' : b = b25 := e; omega) (fun z_ hz_ => by rw [hz_]; exact hb488.w)
          have hb509 := hb486.but hx491 ne33
          have hb510 := hb487.but hx491 ne34
          have hb511 := hb489.but hx491 (fun e => ne416 e.symm)
          have hb512 : At W H490 b25 ⟨31, [.int .i64 n, u375, .int .i64 p, .int .i64 (k + k2), v376], 5⟩ := hb492
          refine AL.val rfl (.inl rfl) (HV.as rfl) ?_
          refine AL.nx ?_
          refine AW.ret ?_
          refine post_ct rfl rfl rfl va31 hb512 ?_ (.inr rfl)
          have hC := bsC_0 hwz hJ; exact ⟨⟨_, _, B377, by rw [zI_yes hC, zI_yes hC, zI_yes hC, hC] <;> rfl, by rw [zL_yes hC]; exact ho507.okk (fun b hb _ => ⟨Nat.le_trans o367 hb.1.1, hb.1.2⟩), by rw [zL_yes hC]; exact ho508.okk (fun b hb _ => ⟨Nat.le_trans o367 hb.1.1, hb.1.2⟩)⟩, X496⟩
        · -- not
          refine AL.w rfl (.inl rfl) (WV.call fn61 rfl (l04Told_ok n p (k + k2) ho465.rd (rd_ofO ho466.rd))) ?_
          rintro _ H513 ⟨e515, hx514⟩
          rw [if_neg hJ] at e515
          subst e515
          have q516 := Nat.le_trans q455 hx514.bd
          have q517 := Nat.le_trans q456 hx514.bd
          have q518 := Nat.le_trans q457 hx514.bd
          have X519 := Ext.trans X458 hx514
          have X520 := Ext.trans X459 hx514
          have X521 := Ext.trans X460 hx514
          have X522 := Ext.trans X461 hx514
          have X523 := Ext.trans X462 hx514
          have X524 := Ext.trans X463 hx514
          have X525 := Ext.trans X464 hx514
          have ho526 := ho465.ext hx514
          have ho527 := ho466.ext hx514
          have hb528 := hb467.ext hx514
          have hb529 := hb468.ext hx514
          have hb530 := hb469.ext hx514
          have hb531 := hb470.ext hx514
          refine AL.val rfl (.inl rfl) (HV.ex rfl rfl) ?_
          refine AL.val rfl (.inl rfl) (HV.ex rfl rfl) ?_
          refine AL.w0 (.inl rfl) (WV.st rfl rfl va31 rfl hb530 (Nat.le_of_ble_eq_true rfl) (one_cons rfl (one_cons (sl_one1 ⟨none, 0, rfl⟩) (one_cons rfl (one_cons rfl (one_cons (sl_one1 ⟨none, 0, rfl⟩) one_nil)))))) ?_
          rintro _ H532 ⟨hx533, hb534⟩
          have q535 := Nat.le_trans q516 hx533.bd
          have q536 := Nat.le_trans q517 hx533.bd
          have q537 := Nat.le_trans q518 hx533.bd
          have X538 := Ext.thru X519 hx533 (fun z_ hz_ => by rw [hz_]; exact o30)
          have X539 := Ext.thru X520 hx533 (fun z_ hz_ => by rw [hz_]; exact o31)
          have X540 := Ext.thru X521 hx533 (fun z_ hz_ => by rw [hz_]; exact o32)
          have q542 := Nat.le_trans X522.bd hx533.bd
          have q544 := Nat.le_trans X523.bd hx533.bd
          have q546 := Nat.le_trans X524.bd hx533.bd
          have q548 := Nat.le_trans X525.bd hx533.bd
          have ho549 := ho526.but hx533 (fun b hb _ e => by have hb' : (H242.bd ≤ b ∧ b < B377) ∧ b < H378.bd := hb; have e' : b = b25 := e; omega) (fun z_ hz_ => by rw [hz_]; exact hb530.w)
          have ho550 := ho527.but hx533 (fun b hb _ e => by have hb' : (H242.bd ≤ b ∧ B377 ≤ b) ∧ b < H378.bd := hb; have e' : b = b25 := e; omega) (fun z_ hz_ => by rw [hz_]; exact hb530.w)
          have hb551 := hb528.but hx533 ne33
          have hb552 := hb529.but hx533 ne34
          have hb553 := hb531.but hx533 (fun e => ne416 e.symm)
          have hb554 : At W H532 b25 ⟨31, [.int .i64 0, (.slice none 0 0), .int .i64 0, .int .i64 0, (.slice none 0 0)], 5⟩ := hb534
          refine AL.val rfl (.inl rfl) (HV.as rfl) ?_
          refine AL.nx ?_
          refine AW.ret ?_
          refine post_ct rfl rfl rfl va31 hb554 ?_ (.inr rfl)
          have hC := bsC_3 hwz hJ; have hC0 : bsC n o p k l n2 o2 p2 k2 l2 ≠ 0 := (by omega); exact ⟨⟨.slice none 0 0, .slice none 0 0, 0, by rw [zI_no hC0, zI_no hC0, zI_no hC0, hC] <;> rfl, by rw [zL_no hC0]; exact OwnK.nil _, by rw [zL_no hC0]; exact OwnD.nil _⟩, X538⟩
end Go.Proofs.Yticobjbjejpomaa.VC
