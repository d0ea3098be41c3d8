/- Walks. -/
import Derived.Test.YtbjcgcililpfdaaZN18
set_option linter.unusedVariables false
set_option linter.unusedSimpArgs false
namespace Go.Proofs.Ytbjcgcililpfdaa.VC
open Go Go.RowKit
variable {W : World} {H : Hp}

set_option maxRecDepth 100000 in
theorem law_FalseShares {v : Value} {l : List (Int × Int)} {ok : Nat → Prop} (hr : RdK (kP kI kI) W H ok v l) (p dg mo : Int) (hW : W.heap.size ≤ H.bd) : ACalls Try.prog W 10 #[.int .i64 p, v, .int .i64 dg, .int .i64 mo] H (fun r H' => r = .bool true ∧ Ext H H') := by
  refine ACalls.of (args := [.int .i64 p, v, .int .i64 dg, .int .i64 mo]) Try.func10 rfl rfl ?_
  have X0 := Ext.refl H
  have hm1 := hr.max
  have fA10 := fsA_len p l dg mo
  have fB10 := fsB_len p l dg mo
  refine AW.rs ?_
  refine AL.val rfl (.inl rfl) (HV.as rfl) ?_
  refine AL.nx ?_
  refine AW.rs ?_
  refine AL.val rfl (.inl rfl) (HV.as rfl) ?_
  refine AL.nx ?_
  refine AW.rs ?_
  refine AL.val rfl (.inl rfl) (HV.mv rfl) ?_
  refine AL.val rfl (.inl rfl) (HV.mv rfl) ?_
  refine AL.w rfl (.inl rfl) (WV.call fn37 rfl (szSh_ok hr 1048576 (by omega))) ?_
  rintro _ H2 ⟨⟨q4, rfl, ha5, hb6, he7⟩, hx3⟩
  have X8 := Ext.trans X0 hx3
  refine AL.val rfl (.inl rfl) (HV.as rfl) ?_
  refine AL.nx ?_
  refine AW.seq ?_
  refine AW.rs ?_
  refine AL.val rfl (.inl rfl) (HV.mv rfl) ?_
  refine AL.val rfl (.inl rfl) (HV.lti rfl rfl) ?_
  refine AL.nx ?_
  refine AW.ifd rfl (fun c9 => ?_) (fun c9 => ?_)
  · -- then
    refine AW.rs ?_
    refine AL.val rfl (.inl rfl) (HV.as rfl) ?_
    refine AL.nx ?_
    refine AW.ret ?_
    refine ret_and ?_
    refine post_one rfl rfl ?_ (.inr rfl)
    exact ⟨rfl, X8⟩
  · -- else
    refine AW.skip ?_
    refine nrm_and ?_
    refine AW.rs ?_
    refine AL.val rfl (.inl rfl) (HV.mv rfl) ?_
    refine AL.val rfl (.inl rfl) (HV.mv rfl) ?_
    refine AL.w rfl (.inl rfl) (WV.call fn39 rfl (toShS_ok (hr.ext X8) (he7 (by omega)))) ?_
    rintro v10 H11 ⟨hx12, ho13⟩
    have X15 := Ext.trans X8 hx12
    have X16 := Ext.refl H11
    have hr14 : RdK (kP kI kI) W H11 _ v10 l := ho13.rd
    refine AL.val rfl (.inl rfl) (HV.mv rfl) ?_
    refine AL.val rfl (.inl rfl) (HV.mv rfl) ?_
    refine AL.w rfl (.inl rfl) (WV.call fn38 rfl (specFS_ok hr14 p dg mo (he7 (by omega)))) ?_
    rintro _ H19 ⟨⟨v17, v18, rfl, hr21, hr22⟩, hx20⟩
    have X29 := Ext.trans X15 hx20
    have X30 := Ext.trans X16 hx20
    have X31 := Ext.refl H19
    refine AL.val rfl (.inl rfl) (HV.mv rfl) ?_
    refine AL.val rfl (.inl rfl) (HV.ex rfl rfl) ?_
    refine AL.val rfl (.inl rfl) (HV.ex rfl rfl) ?_
    refine AL.val rfl (.inl rfl) (HV.ex rfl rfl) ?_
    refine AL.val rfl (.inl rfl) (HV.as rfl) ?_
    refine AL.val rfl (.inl rfl) (HV.as rfl) ?_
    refine AL.val rfl (.inl rfl) (HV.as rfl) ?_
    refine AL.nx ?_
    refine AW.rs ?_
    refine AL.val rfl (.inl rfl) (HV.mv rfl) ?_
    have o32 := X29.bd
    have o33 := X30.bd
    have o34 := X31.bd
    refine AL.w rfl (.inl rfl) (WV.call fn39 rfl (toShS_ok (hr.ext X29) (he7 (by omega)))) ?_
    rintro v35 H36 ⟨hx37, ho38⟩
    have X40 := Ext.trans X29 hx37
    have X41 := Ext.trans X30 hx37
    have X42 := Ext.trans X31 hx37
    have X43 := Ext.refl H36
    have ho39 := ho38.okk (ok' := fun b => H19.bd ≤ b ∧ b < H36.bd) (fun b hb hlt => ⟨hb, hlt⟩)
    refine AL.val rfl (.inl rfl) (HV.as rfl) ?_
    refine AL.nx ?_
    refine AW.rs ?_
    refine AL.val rfl (.inl rfl) (HV.mv rfl) ?_
    refine AL.val rfl (.inl rfl) (HV.mv rfl) ?_
    refine AL.val rfl (.inl rfl) (HV.mv rfl) ?_
    refine AL.val rfl (.inl rfl) (HV.mv rfl) ?_
    have o57 := X40.bd
    have o58 := X41.bd
    have o59 := X42.bd
    have o60 := X43.bd
    have a61 := ho39.ltb
    refine AL.w rfl (.inl rfl) (WV.call fn40 rfl (implFS_ok ho39.rd p dg mo (he7 (by omega)))) ?_
    rintro _ H47 ⟨⟨v45, v46, HM51, rfl, hr49, hr50, x52, x53⟩, hx48⟩
    have X62 := Ext.trans X40 hx48
    have X63 := Ext.trans X41 hx48
    have X64 := Ext.trans X42 hx48
    have X65 := Ext.trans X43 hx48
    have ho66 := ho39.ext hx48
    have X67 := Ext.refl H47
    have q54 := x52.bd
    have q55 := x53.bd
    have ho68 := hr50.okk (ok' := fun b => HM51.bd ≤ b ∧ b < H47.bd) (fun b hb hlt => ⟨hb, hlt⟩)
    have o70 := Nat.le_trans o57 q54
    have o71 := Nat.le_trans o58 q54
    have o72 := Nat.le_trans o59 q54
    have o73 := Nat.le_trans o60 q54
    refine AL.val rfl (.inl rfl) (HV.mv rfl) ?_
    refine AL.val rfl (.inl rfl) (HV.ex rfl rfl) ?_
    refine AL.val rfl (.inl rfl) (HV.ex rfl rfl) ?_
    refine AL.val rfl (.inl rfl) (HV.ex rfl rfl) ?_
    refine AL.val rfl (.inl rfl) (HV.as rfl) ?_
    refine AL.val rfl (.inl rfl) (HV.as rfl) ?_
    refine AL.val rfl (.inl rfl) (HV.as rfl) ?_
    refine AL.nx ?_
    refine AW.seq ?_
    refine AW.rs ?_
    refine AL.val rfl (.inl rfl) (HV.mv rfl) ?_
    refine AL.val rfl (.inl rfl) (HV.mv rfl) ?_
    refine AL.w rfl (.inl rfl) (WV.call fn18 rfl (eqS_ok hr49.rd (hr21.ext X64))) ?_
    rintro _ H75 ⟨rfl, hx76⟩
    have X77 := Ext.trans X62 hx76
    have X78 := Ext.trans X63 hx76
    have X79 := Ext.trans X64 hx76
    have X80 := Ext.trans X65 hx76
    have X81 := Ext.trans X67 hx76
    have ho82 := ho66.ext hx76
    have ho83 := hr49.ext hx76
    have ho84 := ho68.ext hx76
    refine AL.val rfl (.inl rfl) (HV.not rfl) ?_
    refine AL.val rfl (.inl rfl) (HV.mv rfl) ?_
    by_cases c85 : (fsA p l dg mo) = (fsA p l dg mo)
    · -- false
      have c85_ : (!decide ((fsA p l dg mo) = (fsA p l dg mo))) = false := by rw [decide_eq_true c85]; rfl
      rw [c85_]
      refine AL.val rfl (.inr ⟨_, _, _, rfl, rfl, rfl⟩) (HV.mv rfl) ?_
      refine AL.val rfl (.inr ⟨_, _, _, rfl, rfl, rfl⟩) (HV.mv rfl) ?_
      refine AL.w rfl (.inr ⟨_, _, _, rfl, rfl, rfl⟩) (WV.call fn18 rfl (eqS_ok ho84.rd (hr22.ext X79))) ?_
      rintro _ H86 ⟨rfl, hx87⟩
      have X88 := Ext.trans X77 hx87
      have X89 := Ext.trans X78 hx87
      have X90 := Ext.trans X79 hx87
      have X91 := Ext.trans X80 hx87
      have X92 := Ext.trans X81 hx87
      have ho93 := ho82.ext hx87
      have ho94 := ho83.ext hx87
      have ho95 := ho84.ext hx87
      refine AL.val rfl (.inr ⟨_, _, _, rfl, rfl, rfl⟩) (HV.not rfl) ?_
      refine AL.val rfl (.inl rfl) (HV.pickF rfl rfl) ?_
      refine AL.val rfl (.inl rfl) (HV.mv rfl) ?_
      by_cases c96 : (fsB p l dg mo) = (fsB p l dg mo)
      · -- false
        have c96_ : (!decide ((fsB p l dg mo) = (fsB p l dg mo))) = false := by rw [decide_eq_true c96]; rfl
        rw [c96_]
        refine AL.val rfl (.inr ⟨_, _, _, rfl, rfl, rfl⟩) (HV.mv rfl) ?_
        refine AL.val rfl (.inr ⟨_, _, _, rfl, rfl, rfl⟩) (HV.mv rfl) ?_
        refine AL.val rfl (.inr ⟨_, _, _, rfl, rfl, rfl⟩) (HV.nei rfl rfl) ?_
        refine AL.val rfl (.inl rfl) (HV.pickF rfl rfl) ?_
        refine AL.nx ?_
        refine AW.ifd rfl (fun c97 => ?_) (fun c97 => ?_)
        · -- then
          refine AW.rs ?_
          refine AL.val rfl (.inl rfl) (HV.as rfl) ?_
          refine AL.nx ?_
          refine AW.ret ?_
          refine ret_and ?_
          refine post_one rfl rfl ?_ (.inr rfl)
          exfalso; first | omega | (simp at c97; done) | exact absurd c97 (by simp)
        · -- else
          refine AW.skip ?_
          refine nrm_and ?_
          refine AW.seq ?_
          refine AW.rs ?_
          refine AL.val rfl (.inl rfl) (HV.mv rfl) ?_
          refine AL.val rfl (.inl rfl) (HV.mv rfl) ?_
          refine AL.w rfl (.inl rfl) (WV.call fn39 rfl (toShS_ok (hr.ext X88) (he7 (by omega)))) ?_
          rintro v98 H99 ⟨hx100, ho101⟩
          have X103 := Ext.trans X88 hx100
          have X104 := Ext.trans X89 hx100
          have X105 := Ext.trans X90 hx100
          have X106 := Ext.trans X91 hx100
          have X107 := Ext.trans X92 hx100
          have ho108 := ho93.ext hx100
          have ho109 := ho94.ext hx100
          have ho110 := ho95.ext hx100
          have X111 := Ext.refl H99
          have hr102 : RdK (kP kI kI) W H99 _ v98 l := ho101.rd
          refine AL.w rfl (.inl rfl) (WV.call fn41 rfl (eqShS_ok ho108.rd hr102)) ?_
          rintro _ H112 ⟨rfl, hx113⟩
          have X114 := Ext.trans X103 hx113
          have X115 := Ext.trans X104 hx113
          have X116 := Ext.trans X105 hx113
          have X117 := Ext.trans X106 hx113
          have X118 := Ext.trans X107 hx113
          have X119 := Ext.trans X111 hx113
          have ho120 := ho108.ext hx113
          have ho121 := ho109.ext hx113
          have ho122 := ho110.ext hx113
          refine AL.val rfl (.inl rfl) (HV.not rfl) ?_
          refine AL.nx ?_
          refine AW.ifn rfl (fun c123 => ?_) (fun c123 => ?_)
          · -- then
            refine AW.rs ?_
            refine AL.val rfl (.inl rfl) (HV.as rfl) ?_
            refine AL.nx ?_
            refine AW.ret ?_
            refine ret_and ?_
            refine post_one rfl rfl ?_ (.inr rfl)
            exfalso; first | omega | (simp at c123; done) | exact absurd c123 (by simp)
          · -- else
            refine AW.skip ?_
            refine nrm_and ?_
            refine AW.rs ?_
            refine AL.val rfl (.inl rfl) (HV.as rfl) ?_
            refine AL.nx ?_
            refine AW.rs ?_
            refine AL.val rfl (.inl rfl) (HV.mv rfl) ?_
            refine AL.val rfl (.inl rfl) (HV.mv rfl) ?_
            refine AL.w rfl (.inl rfl) (WV.call fn42 rfl (markSh_ok 1 ho120 (by omega))) ?_
            rintro _ H124 ⟨k125, rfl, hk126, hh127, hx128, ho129⟩
            have X130 := Ext.thru X114 hx128 (fun b hb => Nat.le_trans o32 (ho120.blk b hb).1.1)
            have X131 := Ext.thru X115 hx128 (fun b hb => Nat.le_trans o33 (ho120.blk b hb).1.1)
            have X132 := Ext.thru X116 hx128 (fun b hb => Nat.le_trans o34 (ho120.blk b hb).1.1)
            have ho136 := ho121.but hx128 (fun b hb _ e => by have h1 : H36.bd ≤ b ∧ b < HM51.bd := hb; have h2 : H19.bd ≤ b ∧ b < H36.bd := (ho120.blk b e).1; omega) (fun b hb => (ho120.blk b hb).2.2)
            have ho137 := ho122.but hx128 (fun b hb _ e => by have h1 : HM51.bd ≤ b ∧ b < H47.bd := hb; have h2 : H19.bd ≤ b ∧ b < H36.bd := (ho120.blk b e).1; omega) (fun b hb => (ho120.blk b hb).2.2)
            refine AL.val rfl (.inl rfl) (HV.as rfl) ?_
            refine AL.nx ?_
            refine AW.seq ?_
            refine AW.rs ?_
            refine AL.val rfl (.inl rfl) (HV.mv rfl) ?_
            refine AL.val rfl (.inl rfl) (HV.lti rfl rfl) ?_
            refine AL.val rfl (.inl rfl) (HV.mv rfl) ?_
            by_cases c138 : (1 + 2 * (l.length : Int)) < 0
            · -- true
              have c138_ : decide ((1 + 2 * (l.length : Int)) < 0) = true := decide_eq_true c138
              rw [c138_]
              refine AL.off rfl rfl (by decide) rfl ?_
              refine AL.off rfl rfl (by decide) rfl ?_
              refine AL.off rfl rfl (by decide) rfl ?_
              refine AL.off rfl rfl (by decide) rfl ?_
              refine AL.val rfl (.inl rfl) (HV.pickT rfl rfl) ?_
              refine AL.val rfl (.inl rfl) (HV.mv rfl) ?_
              refine AL.off rfl rfl (by decide) rfl ?_
              refine AL.off rfl rfl (by decide) rfl ?_
              refine AL.off rfl rfl (by decide) rfl ?_
              refine AL.off rfl rfl (by decide) rfl ?_
              refine AL.val rfl (.inl rfl) (HV.pickT rfl rfl) ?_
              refine AL.val rfl (.inl rfl) (HV.mv rfl) ?_
              refine AL.off rfl rfl (by decide) rfl ?_
              refine AL.off rfl rfl (by decide) rfl ?_
              refine AL.off rfl rfl (by decide) rfl ?_
              refine AL.val rfl (.inl rfl) (HV.pickT rfl rfl) ?_
              refine AL.nx ?_
              refine AW.cond rfl (fun _ => ?_) (fun h => by cases h)
              refine AW.rs ?_
              refine AL.val rfl (.inl rfl) (HV.as rfl) ?_
              refine AL.nx ?_
              refine AW.ret ?_
              refine ret_and ?_
              refine post_one rfl rfl ?_ (.inr rfl)
              exfalso; first | omega | (simp at c138; done) | exact absurd c138 (by simp)
            · -- false
              have c138_ : decide ((1 + 2 * (l.length : Int)) < 0) = false := decide_eq_false c138
              rw [c138_]
              refine AL.val rfl (.inr ⟨_, _, _, rfl, rfl, rfl⟩) (HV.mv rfl) ?_
              refine AL.val rfl (.inr ⟨_, _, _, rfl, rfl, rfl⟩) (HV.mv rfl) ?_
              refine AL.w rfl (.inr ⟨_, _, _, rfl, rfl, rfl⟩) (WV.call fn18 rfl (eqS_ok ho136.rd (hr21.ext X132))) ?_
              rintro _ H140 ⟨rfl, hx141⟩
              have X142 := Ext.trans X130 hx141
              have X143 := Ext.trans X131 hx141
              have X144 := Ext.trans X132 hx141
              have ho145 := ho136.ext hx141
              have ho146 := ho137.ext hx141
              refine AL.val rfl (.inr ⟨_, _, _, rfl, rfl, rfl⟩) (HV.not rfl) ?_
              refine AL.val rfl (.inl rfl) (HV.pickF rfl rfl) ?_
              refine AL.val rfl (.inl rfl) (HV.mv rfl) ?_
              by_cases c147 : (fsA p l dg mo) = (fsA p l dg mo)
              · -- false
                have c147_ : (!decide ((fsA p l dg mo) = (fsA p l dg mo))) = false := by rw [decide_eq_true c147]; rfl
                rw [c147_]
                refine AL.val rfl (.inr ⟨_, _, _, rfl, rfl, rfl⟩) (HV.mv rfl) ?_
                refine AL.val rfl (.inr ⟨_, _, _, rfl, rfl, rfl⟩) (HV.mv rfl) ?_
                refine AL.w rfl (.inr ⟨_, _, _, rfl, rfl, rfl⟩) (WV.call fn18 rfl (eqS_ok ho146.rd (hr22.ext X144))) ?_
                rintro _ H148 ⟨rfl, hx149⟩
                have X150 := Ext.trans X142 hx149
                have X151 := Ext.trans X143 hx149
                have X152 := Ext.trans X144 hx149
                have ho153 := ho145.ext hx149
                have ho154 := ho146.ext hx149
                refine AL.val rfl (.inr ⟨_, _, _, rfl, rfl, rfl⟩) (HV.not rfl) ?_
                refine AL.val rfl (.inl rfl) (HV.pickF rfl rfl) ?_
                refine AL.val rfl (.inl rfl) (HV.mv rfl) ?_
                by_cases c155 : (fsB p l dg mo) = (fsB p l dg mo)
                · -- false
                  have c155_ : (!decide ((fsB p l dg mo) = (fsB p l dg mo))) = false := by rw [decide_eq_true c155]; rfl
                  rw [c155_]
                  refine AL.val rfl (.inr ⟨_, _, _, rfl, rfl, rfl⟩) (HV.mv rfl) ?_
                  refine AL.val rfl (.inr ⟨_, _, _, rfl, rfl, rfl⟩) (HV.mv rfl) ?_
                  refine AL.val rfl (.inr ⟨_, _, _, rfl, rfl, rfl⟩) (HV.nei rfl rfl) ?_
                  refine AL.val rfl (.inl rfl) (HV.pickF rfl rfl) ?_
                  refine AL.nx ?_
                  refine AW.ifd rfl (fun c156 => ?_) (fun c156 => ?_)
                  · -- then
                    refine AW.rs ?_
                    refine AL.val rfl (.inl rfl) (HV.as rfl) ?_
                    refine AL.nx ?_
                    refine AW.ret ?_
                    refine ret_and ?_
                    refine post_one rfl rfl ?_ (.inr rfl)
                    exfalso; first | omega | (simp at c156; done) | exact absurd c156 (by simp)
                  · -- else
                    refine AW.skip ?_
                    refine nrm_and ?_
                    refine AW.rs ?_
                    refine AL.val rfl (.inl rfl) (HV.as rfl) ?_
                    refine AL.nx ?_
                    refine AW.rs ?_
                    refine AL.val rfl (.inl rfl) (HV.mv rfl) ?_
                    refine AL.val rfl (.inl rfl) (HV.mv rfl) ?_
                    refine AL.w rfl (.inl rfl) (WV.call fn27 rfl (markS_ok 1 ho153 (by omega))) ?_
                    rintro _ H157 ⟨k158, rfl, hk159, hh160, hx161, ho162⟩
                    have X163 := Ext.thru X150 hx161 (fun b hb => Nat.le_trans o57 (ho153.blk b hb).1.1)
                    have X164 := Ext.thru X151 hx161 (fun b hb => Nat.le_trans o58 (ho153.blk b hb).1.1)
                    have X165 := Ext.thru X152 hx161 (fun b hb => Nat.le_trans o59 (ho153.blk b hb).1.1)
                    have ho166 := ho154.but hx161 (fun b hb _ e => by have h1 : HM51.bd ≤ b ∧ b < H47.bd := hb; have h2 : H36.bd ≤ b ∧ b < HM51.bd := (ho153.blk b e).1; omega) (fun b hb => (ho153.blk b hb).2.2)
                    refine AL.val rfl (.inl rfl) (HV.as rfl) ?_
                    refine AL.nx ?_
                    refine AW.rs ?_
                    refine AL.val rfl (.inl rfl) (HV.mv rfl) ?_
                    refine AL.val rfl (.inl rfl) (HV.mv rfl) ?_
                    refine AL.w rfl (.inl rfl) (WV.call fn27 rfl (markS_ok (1 + ((fsA p l dg mo).length : Int)) ho166 (by omega))) ?_
                    rintro _ H167 ⟨k168, rfl, hk169, hh170, hx171, ho172⟩
                    have X173 := Ext.thru X163 hx171 (fun b hb => Nat.le_trans o70 (ho166.blk b hb).1.1)
                    have X174 := Ext.thru X164 hx171 (fun b hb => Nat.le_trans o71 (ho166.blk b hb).1.1)
                    have X175 := Ext.thru X165 hx171 (fun b hb => Nat.le_trans o72 (ho166.blk b hb).1.1)
                    have ho176 := ho162.but hx171 (fun b hb _ e => by have h1 : H36.bd ≤ b ∧ b < HM51.bd := hb; have h2 : HM51.bd ≤ b ∧ b < H47.bd := (ho166.blk b e).1; omega) (fun b hb => (ho166.blk b hb).2.2)
                    refine AL.val rfl (.inl rfl) (HV.as rfl) ?_
                    refine AL.nx ?_
                    refine AW.rs ?_
                    refine AL.val rfl (.inl rfl) (HV.as rfl) ?_
                    refine AL.nx ?_
                    refine AW.rs ?_
                    refine AL.val rfl (.inl rfl) (HV.mv rfl) ?_
                    refine AL.val rfl (.inl rfl) (HV.mv rfl) ?_
                    refine AL.w rfl (.inl rfl) (WV.call fn28 rfl (heldS_ok 1 ho176.rd (by omega) hh160)) ?_
                    rintro _ H177 ⟨rfl, hx178⟩
                    have X179 := Ext.trans X173 hx178
                    have X180 := Ext.trans X174 hx178
                    have X181 := Ext.trans X175 hx178
                    have ho182 := ho176.ext hx178
                    have ho183 := ho172.ext hx178
                    refine AL.val rfl (.inl rfl) (HV.as rfl) ?_
                    refine AL.nx ?_
                    refine AW.seq ?_
                    refine AW.rs ?_
                    refine AL.val rfl (.inl rfl) (HV.mv rfl) ?_
                    refine AL.val rfl (.inl rfl) (HV.lti rfl rfl) ?_
                    refine AL.nx ?_
                    refine AW.ifd rfl (fun c184 => ?_) (fun c184 => ?_)
                    · -- then
                      refine AW.rs ?_
                      refine AL.val rfl (.inl rfl) (HV.as rfl) ?_
                      refine AL.nx ?_
                      refine AW.ret ?_
                      refine ret_and ?_
                      refine post_one rfl rfl ?_ (.inr rfl)
                      exfalso; first | omega | (simp at c184; done) | exact absurd c184 (by simp)
                    · -- else
                      refine AW.skip ?_
                      refine nrm_and ?_
                      refine AW.rs ?_
                      refine AL.val rfl (.inl rfl) (HV.mv rfl) ?_
                      refine AL.val rfl (.inl rfl) (HV.mv rfl) ?_
                      refine AL.w rfl (.inl rfl) (WV.call fn28 rfl (heldS_ok (1 + (k158.length : Int)) ho183.rd (by omega) (by have q := hh170; rw [← hk159] at q; exact q))) ?_
                      rintro _ H185 ⟨rfl, hx186⟩
                      have X187 := Ext.trans X179 hx186
                      have X188 := Ext.trans X180 hx186
                      have X189 := Ext.trans X181 hx186
                      have ho190 := ho182.ext hx186
                      have ho191 := ho183.ext hx186
                      refine AL.val rfl (.inl rfl) (HV.as rfl) ?_
                      refine AL.nx ?_
                      refine AW.seq ?_
                      refine AW.rs ?_
                      refine AL.val rfl (.inl rfl) (HV.mv rfl) ?_
                      refine AL.val rfl (.inl rfl) (HV.lti rfl rfl) ?_
                      refine AL.nx ?_
                      refine AW.ifd rfl (fun c192 => ?_) (fun c192 => ?_)
                      · -- then
                        refine AW.rs ?_
                        refine AL.val rfl (.inl rfl) (HV.as rfl) ?_
                        refine AL.nx ?_
                        refine AW.ret ?_
                        refine ret_and ?_
                        refine post_one rfl rfl ?_ (.inr rfl)
                        exfalso; first | omega | (simp at c192; done) | exact absurd c192 (by simp)
                      · -- else
                        refine AW.skip ?_
                        refine nrm_and ?_
                        refine AW.seq ?_
                        refine AW.rs ?_
                        refine AL.val rfl (.inl rfl) (HV.mv rfl) ?_
                        refine AL.val rfl (.inl rfl) (HV.mv rfl) ?_
                        refine AL.val rfl (.inl rfl) (HV.nei rfl rfl) ?_
                        refine AL.nx ?_
                        refine AW.ifd rfl (fun c193 => ?_) (fun c193 => ?_)
                        · -- then
                          refine AW.rs ?_
                          refine AL.val rfl (.inl rfl) (HV.as rfl) ?_
                          refine AL.nx ?_
                          refine AW.ret ?_
                          refine ret_and ?_
                          refine post_one rfl rfl ?_ (.inr rfl)
                          exfalso; first | omega | (simp at c193; done) | exact absurd c193 (by simp)
                        · -- else
                          refine AW.skip ?_
                          refine nrm_and ?_
                          refine AW.rs ?_
                          refine AL.val rfl (.inl rfl) (HV.mv rfl) ?_
                          refine AL.val rfl (.inl rfl) (HV.mv rfl) ?_
                          refine AL.w rfl (.inl rfl) (WV.call fn39 rfl (toShS_ok (hr.ext X187) (he7 (by omega)))) ?_
                          rintro v194 H195 ⟨hx196, ho197⟩
                          have X199 := Ext.trans X187 hx196
                          have X200 := Ext.trans X188 hx196
                          have X201 := Ext.trans X189 hx196
                          have ho202 := ho190.ext hx196
                          have ho203 := ho191.ext hx196
                          have X204 := Ext.refl H195
                          have hr198 : RdK (kP kI kI) W H195 _ v194 l := ho197.rd
                          refine AL.val rfl (.inl rfl) (HV.mv rfl) ?_
                          refine AL.val rfl (.inl rfl) (HV.mv rfl) ?_
                          have o217 := X199.bd
                          have o218 := X200.bd
                          have o219 := X201.bd
                          have o220 := X204.bd
                          have a221 := ho202.ltb
                          have a222 := ho203.ltb
                          refine AL.w rfl (.inl rfl) (WV.call fn40 rfl (implFS_ok hr198 p dg mo (he7 (by omega)))) ?_
                          rintro _ H207 ⟨⟨v205, v206, HM211, rfl, hr209, hr210, x212, x213⟩, hx208⟩
                          have X223 := Ext.trans X199 hx208
                          have X224 := Ext.trans X200 hx208
                          have X225 := Ext.trans X201 hx208
                          have X226 := Ext.trans X204 hx208
                          have ho227 := ho202.ext hx208
                          have ho228 := ho203.ext hx208
                          have X229 := Ext.refl H207
                          refine AL.val rfl (.inl rfl) (HV.mv rfl) ?_
                          refine AL.val rfl (.inl rfl) (HV.ex rfl rfl) ?_
                          refine AL.val rfl (.inl rfl) (HV.ex rfl rfl) ?_
                          refine AL.val rfl (.inl rfl) (HV.ex rfl rfl) ?_
                          refine AL.val rfl (.inl rfl) (HV.as rfl) ?_
                          refine AL.val rfl (.inl rfl) (HV.as rfl) ?_
                          refine AL.val rfl (.inl rfl) (HV.as rfl) ?_
                          refine AL.nx ?_
                          refine AW.seq ?_
                          refine AW.rs ?_
                          refine AL.val rfl (.inl rfl) (HV.mv rfl) ?_
                          refine AL.val rfl (.inl rfl) (HV.mv rfl) ?_
                          refine AL.w rfl (.inl rfl) (WV.call fn18 rfl (eqS_ok hr209.rd (hr21.ext X225))) ?_
                          rintro _ H230 ⟨rfl, hx231⟩
                          have X232 := Ext.trans X223 hx231
                          have X233 := Ext.trans X224 hx231
                          have X234 := Ext.trans X225 hx231
                          have X235 := Ext.trans X226 hx231
                          have X236 := Ext.trans X229 hx231
                          have ho237 := ho227.ext hx231
                          have ho238 := ho228.ext hx231
                          refine AL.val rfl (.inl rfl) (HV.not rfl) ?_
                          refine AL.val rfl (.inl rfl) (HV.mv rfl) ?_
                          by_cases c239 : (fsA p l dg mo) = (fsA p l dg mo)
                          · -- false
                            have c239_ : (!decide ((fsA p l dg mo) = (fsA p l dg mo))) = false := by rw [decide_eq_true c239]; rfl
                            rw [c239_]
                            refine AL.val rfl (.inr ⟨_, _, _, rfl, rfl, rfl⟩) (HV.mv rfl) ?_
                            refine AL.val rfl (.inr ⟨_, _, _, rfl, rfl, rfl⟩) (HV.mv rfl) ?_
                            refine AL.w rfl (.inr ⟨_, _, _, rfl, rfl, rfl⟩) (WV.call fn18 rfl (eqS_ok (hr210.rd.ext X236) (hr22.ext X234))) ?_
                            rintro _ H240 ⟨rfl, hx241⟩
                            have X242 := Ext.trans X232 hx241
                            have X243 := Ext.trans X233 hx241
                            have X244 := Ext.trans X234 hx241
                            have X245 := Ext.trans X235 hx241
                            have X246 := Ext.trans X236 hx241
                            have ho247 := ho237.ext hx241
                            have ho248 := ho238.ext hx241
                            refine AL.val rfl (.inr ⟨_, _, _, rfl, rfl, rfl⟩) (HV.not rfl) ?_
                            refine AL.val rfl (.inl rfl) (HV.pickF rfl rfl) ?_
                            refine AL.val rfl (.inl rfl) (HV.mv rfl) ?_
                            by_cases c249 : (fsB p l dg mo) = (fsB p l dg mo)
                            · -- false
                              have c249_ : (!decide ((fsB p l dg mo) = (fsB p l dg mo))) = false := by rw [decide_eq_true c249]; rfl
                              rw [c249_]
                              refine AL.val rfl (.inr ⟨_, _, _, rfl, rfl, rfl⟩) (HV.mv rfl) ?_
                              refine AL.val rfl (.inr ⟨_, _, _, rfl, rfl, rfl⟩) (HV.mv rfl) ?_
                              refine AL.val rfl (.inr ⟨_, _, _, rfl, rfl, rfl⟩) (HV.nei rfl rfl) ?_
                              refine AL.val rfl (.inl rfl) (HV.pickF rfl rfl) ?_
                              refine AL.nx ?_
                              refine AW.ifd rfl (fun c250 => ?_) (fun c250 => ?_)
                              · -- then
                                refine AW.rs ?_
                                refine AL.val rfl (.inl rfl) (HV.as rfl) ?_
                                refine AL.nx ?_
                                refine AW.ret ?_
                                refine ret_and ?_
                                refine post_one rfl rfl ?_ (.inr rfl)
                                exfalso; first | omega | (simp at c250; done) | exact absurd c250 (by simp)
                              · -- else
                                refine AW.skip ?_
                                refine nrm_and ?_
                                refine AW.rs ?_
                                refine AL.val rfl (.inl rfl) (HV.as rfl) ?_
                                refine AL.nx ?_
                                refine AW.rs ?_
                                refine AL.val rfl (.inl rfl) (HV.mv rfl) ?_
                                refine AL.val rfl (.inl rfl) (HV.mv rfl) ?_
                                refine AL.w rfl (.inl rfl) (WV.call fn28 rfl (heldS_ok 1 ho247.rd (by omega) hh160)) ?_
                                rintro _ H251 ⟨rfl, hx252⟩
                                have X253 := Ext.trans X242 hx252
                                have X254 := Ext.trans X243 hx252
                                have X255 := Ext.trans X244 hx252
                                have X256 := Ext.trans X245 hx252
                                have X257 := Ext.trans X246 hx252
                                have ho258 := ho247.ext hx252
                                have ho259 := ho248.ext hx252
                                refine AL.val rfl (.inl rfl) (HV.as rfl) ?_
                                refine AL.nx ?_
                                refine AW.seq ?_
                                refine AW.rs ?_
                                refine AL.val rfl (.inl rfl) (HV.mv rfl) ?_
                                refine AL.val rfl (.inl rfl) (HV.lti rfl rfl) ?_
                                refine AL.nx ?_
                                refine AW.ifd rfl (fun c260 => ?_) (fun c260 => ?_)
                                · -- then
                                  refine AW.rs ?_
                                  refine AL.val rfl (.inl rfl) (HV.as rfl) ?_
                                  refine AL.nx ?_
                                  refine AW.ret ?_
                                  refine ret_and ?_
                                  refine post_one rfl rfl ?_ (.inr rfl)
                                  exfalso; first | omega | (simp at c260; done) | exact absurd c260 (by simp)
                                · -- else
                                  refine AW.skip ?_
                                  refine nrm_and ?_
                                  refine AW.rs ?_
                                  refine AL.val rfl (.inl rfl) (HV.mv rfl) ?_
                                  refine AL.val rfl (.inl rfl) (HV.mv rfl) ?_
                                  refine AL.w rfl (.inl rfl) (WV.call fn28 rfl (heldS_ok (1 + (k158.length : Int)) ho259.rd (by omega) (by have q := hh170; rw [← hk159] at q; exact q))) ?_
                                  rintro _ H261 ⟨rfl, hx262⟩
                                  have X263 := Ext.trans X253 hx262
                                  have X264 := Ext.trans X254 hx262
                                  have X265 := Ext.trans X255 hx262
                                  have X266 := Ext.trans X256 hx262
                                  have X267 := Ext.trans X257 hx262
                                  have ho268 := ho258.ext hx262
                                  have ho269 := ho259.ext hx262
                                  refine AL.val rfl (.inl rfl) (HV.as rfl) ?_
                                  refine AL.nx ?_
                                  refine AW.seq ?_
                                  refine AW.rs ?_
                                  refine AL.val rfl (.inl rfl) (HV.mv rfl) ?_
                                  refine AL.val rfl (.inl rfl) (HV.lti rfl rfl) ?_
                                  refine AL.nx ?_
                                  refine AW.ifd rfl (fun c270 => ?_) (fun c270 => ?_)
                                  · -- then
                                    refine AW.rs ?_
                                    refine AL.val rfl (.inl rfl) (HV.as rfl) ?_
                                    refine AL.nx ?_
                                    refine AW.ret ?_
                                    refine ret_and ?_
                                    refine post_one rfl rfl ?_ (.inr rfl)
                                    exfalso; first | omega | (simp at c270; done) | exact absurd c270 (by simp)
                                  · -- else
                                    refine AW.skip ?_
                                    refine nrm_and ?_
                                    refine AW.seq ?_
                                    refine AW.rs ?_
                                    refine AL.val rfl (.inl rfl) (HV.mv rfl) ?_
                                    refine AL.val rfl (.inl rfl) (HV.mv rfl) ?_
                                    refine AL.val rfl (.inl rfl) (HV.nei rfl rfl) ?_
                                    refine AL.nx ?_
                                    refine AW.ifd rfl (fun c271 => ?_) (fun c271 => ?_)
                                    · -- then
                                      refine AW.rs ?_
                                      refine AL.val rfl (.inl rfl) (HV.as rfl) ?_
                                      refine AL.nx ?_
                                      refine AW.ret ?_
                                      refine ret_and ?_
                                      refine post_one rfl rfl ?_ (.inr rfl)
                                      exfalso; first | omega | (simp at c271; done) | exact absurd c271 (by simp)
                                    · -- else
                                      refine AW.skip ?_
                                      refine nrm_and ?_
                                      refine AW.rs ?_
                                      refine AL.val rfl (.inl rfl) (HV.as rfl) ?_
                                      refine AL.nx ?_
                                      refine AW.ret ?_
                                      refine post_one rfl rfl ?_ (.inr rfl)
                                      exact ⟨rfl, X263⟩
                            · -- true
                              have c249_ : (!decide ((fsB p l dg mo) = (fsB p l dg mo))) = true := by rw [decide_eq_false c249]; rfl
                              rw [c249_]
                              refine AL.off rfl rfl (by decide) rfl ?_
                              refine AL.off rfl rfl (by decide) rfl ?_
                              refine AL.off rfl rfl (by decide) rfl ?_
                              refine AL.val rfl (.inl rfl) (HV.pickT rfl rfl) ?_
                              refine AL.nx ?_
                              refine AW.cond rfl (fun _ => ?_) (fun h => by cases h)
                              refine AW.rs ?_
                              refine AL.val rfl (.inl rfl) (HV.as rfl) ?_
                              refine AL.nx ?_
                              refine AW.ret ?_
                              refine ret_and ?_
                              refine post_one rfl rfl ?_ (.inr rfl)
                              exfalso; first | omega | (simp at c249; done) | exact absurd c249 (by simp)
                          · -- true
                            have c239_ : (!decide ((fsA p l dg mo) = (fsA p l dg mo))) = true := by rw [decide_eq_false c239]; rfl
                            rw [c239_]
                            refine AL.off rfl rfl (by decide) rfl ?_
                            refine AL.off rfl rfl (by decide) rfl ?_
                            refine AL.off rfl rfl (by decide) rfl ?_
                            refine AL.off rfl rfl (by decide) rfl ?_
                            refine AL.val rfl (.inl rfl) (HV.pickT rfl rfl) ?_
                            refine AL.val rfl (.inl rfl) (HV.mv rfl) ?_
                            refine AL.off rfl rfl (by decide) rfl ?_
                            refine AL.off rfl rfl (by decide) rfl ?_
                            refine AL.off rfl rfl (by decide) rfl ?_
                            refine AL.val rfl (.inl rfl) (HV.pickT rfl rfl) ?_
                            refine AL.nx ?_
                            refine AW.cond rfl (fun _ => ?_) (fun h => by cases h)
                            refine AW.rs ?_
                            refine AL.val rfl (.inl rfl) (HV.as rfl) ?_
                            refine AL.nx ?_
                            refine AW.ret ?_
                            refine ret_and ?_
                            refine post_one rfl rfl ?_ (.inr rfl)
                            exfalso; first | omega | (simp at c239; done) | exact absurd c239 (by simp)
                · -- true
                  have c155_ : (!decide ((fsB p l dg mo) = (fsB p l dg mo))) = true := by rw [decide_eq_false c155]; rfl
                  rw [c155_]
                  refine AL.off rfl rfl (by decide) rfl ?_
                  refine AL.off rfl rfl (by decide) rfl ?_
                  refine AL.off rfl rfl (by decide) rfl ?_
                  refine AL.val rfl (.inl rfl) (HV.pickT rfl rfl) ?_
                  refine AL.nx ?_
                  refine AW.cond rfl (fun _ => ?_) (fun h => by cases h)
                  refine AW.rs ?_
                  refine AL.val rfl (.inl rfl) (HV.as rfl) ?_
                  refine AL.nx ?_
                  refine AW.ret ?_
                  refine ret_and ?_
                  refine post_one rfl rfl ?_ (.inr rfl)
                  exfalso; first | omega | (simp at c155; done) | exact absurd c155 (by simp)
              · -- true
                have c147_ : (!decide ((fsA p l dg mo) = (fsA p l dg mo))) = true := by rw [decide_eq_false c147]; rfl
                rw [c147_]
                refine AL.off rfl rfl (by decide) rfl ?_
                refine AL.off rfl rfl (by decide) rfl ?_
                refine AL.off rfl rfl (by decide) rfl ?_
                refine AL.off rfl rfl (by decide) rfl ?_
                refine AL.val rfl (.inl rfl) (HV.pickT rfl rfl) ?_
                refine AL.val rfl (.inl rfl) (HV.mv rfl) ?_
                refine AL.off rfl rfl (by decide) rfl ?_
                refine AL.off rfl rfl (by decide) rfl ?_
                refine AL.off rfl rfl (by decide) rfl ?_
                refine AL.val rfl (.inl rfl) (HV.pickT rfl rfl) ?_
                refine AL.nx ?_
                refine AW.cond rfl (fun _ => ?_) (fun h => by cases h)
                refine AW.rs ?_
                refine AL.val rfl (.inl rfl) (HV.as rfl) ?_
                refine AL.nx ?_
                refine AW.ret ?_
                refine ret_and ?_
                refine post_one rfl rfl ?_ (.inr rfl)
                exfalso; first | omega | (simp at c147; done) | exact absurd c147 (by simp)
      · -- true
        have c96_ : (!decide ((fsB p l dg mo) = (fsB p l dg mo))) = true := by rw [decide_eq_false c96]; rfl
        rw [c96_]
        refine AL.off rfl rfl (by decide) rfl ?_
        refine AL.off rfl rfl (by decide) rfl ?_
        refine AL.off rfl rfl (by decide) rfl ?_
        refine AL.val rfl (.inl rfl) (HV.pickT rfl rfl) ?_
        refine AL.nx ?_
        refine AW.cond rfl (fun _ => ?_) (fun h => by cases h)
        refine AW.rs ?_
        refine AL.val rfl (.inl rfl) (HV.as rfl) ?_
        refine AL.nx ?_
        refine AW.ret ?_
        refine ret_and ?_
        refine post_one rfl rfl ?_ (.inr rfl)
        exfalso; first | omega | (simp at c96; done) | exact absurd c96 (by simp)
    · -- true
      have c85_ : (!decide ((fsA p l dg mo) = (fsA p l dg mo))) = true := by rw [decide_eq_false c85]; rfl
      rw [c85_]
      refine AL.off rfl rfl (by decide) rfl ?_
      refine AL.off rfl rfl (by decide) rfl ?_
      refine AL.off rfl rfl (by decide) rfl ?_
      refine AL.off rfl rfl (by decide) rfl ?_
      refine AL.val rfl (.inl rfl) (HV.pickT rfl rfl) ?_
      refine AL.val rfl (.inl rfl) (HV.mv rfl) ?_
      refine AL.off rfl rfl (by decide) rfl ?_
      refine AL.off rfl rfl (by decide) rfl ?_
      refine AL.off rfl rfl (by decide) rfl ?_
      refine AL.val rfl (.inl rfl) (HV.pickT rfl rfl) ?_
      refine AL.nx ?_
      refine AW.cond rfl (fun _ => ?_) (fun h => by cases h)
      refine AW.rs ?_
      refine AL.val rfl (.inl rfl) (HV.as rfl) ?_
      refine AL.nx ?_
      refine AW.ret ?_
      refine ret_and ?_
      refine post_one rfl rfl ?_ (.inr rfl)
      exfalso; first | omega | (simp at c85; done) | exact absurd c85 (by simp)
end Go.Proofs.Ytbjcgcililpfdaa.VC

