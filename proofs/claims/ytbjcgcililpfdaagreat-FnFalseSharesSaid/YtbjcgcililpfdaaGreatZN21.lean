/- Walks. -/
import Derived.Test.YtbjcgcililpfdaaGreatZN20
set_option linter.unusedVariables false
set_option linter.unusedSimpArgs false
namespace Go.Proofs.YtbjcgcililpfdaaGreat.VC
open Go Go.RowKit
variable {W : World} {H : Hp}

open VI (dl)
set_option maxRecDepth 100000 in
theorem law_FnFalse {vc vd : Value} {l l2 : List Int} (hr : RdK kU8 W H (fun _ => False) vc l) (hby : bytes l) (hr2 : RdK kU8 W H (fun _ => False) vd l2) (hby2 : bytes l2) : ACalls Tryz.prog W 3 #[vc, vd] H (fun r H' => r = .bool true ∧ Ext H H') := by
  refine ACalls.of (args := [vc, vd]) Tryz.func3 rfl rfl ?_
  have X0 := Ext.refl H
  have hm1 := hr.max
  have hm2 := hr2.max
  refine AW.rs ?_
  refine AL.val rfl (.inl rfl) (HV.as rfl) ?_
  refine AL.nx ?_
  refine AW.seq ?_
  refine AW.rs ?_
  refine AL.val rfl (.inl rfl) (HV.mv rfl) ?_
  refine AL.w rfl (.inl rfl) (WV.call fn4 rfl (f6big_ok hr)) ?_
  rintro _ H3 ⟨rfl, hx4⟩
  have X5 := Ext.trans X0 hx4
  refine AL.val rfl (.inl rfl) (HV.mv rfl) ?_
  by_cases c6 : (l.length : Int) > 4096
  · -- true
    have c6_ : decide ((l.length : Int) > 4096) = true := decide_eq_true c6
    rw [c6_]
    refine AL.off rfl rfl (by decide) rfl ?_
    refine AL.off rfl rfl (by decide) rfl ?_
    refine AL.val rfl (.inl rfl) (HV.pickT rfl rfl) ?_
    refine AL.nx ?_
    refine AW.cond rfl (fun _ => ?_) (fun h => by cases h)
    refine AW.rs ?_
    refine AL.val rfl (.inl rfl) (HV.as rfl) ?_
    refine AL.nx ?_
    refine AW.ret ?_
    refine ret_and ?_
    refine post_one rfl rfl ?_ (.inr rfl)
    exact ⟨rfl, X5⟩
  · -- false
    have c6_ : decide ((l.length : Int) > 4096) = false := decide_eq_false c6
    rw [c6_]
    refine AL.val rfl (.inr ⟨_, _, _, rfl, rfl, rfl⟩) (HV.mv rfl) ?_
    refine AL.w rfl (.inr ⟨_, _, _, rfl, rfl, rfl⟩) (WV.call fn4 rfl (f6big_ok (hr2.ext X5))) ?_
    rintro _ H8 ⟨rfl, hx9⟩
    have X10 := Ext.trans X5 hx9
    refine AL.val rfl (.inl rfl) (HV.pickF rfl rfl) ?_
    refine AL.nx ?_
    refine AW.ifd rfl (fun c11 => ?_) (fun c11 => ?_)
    · -- then
      refine AW.rs ?_
      refine AL.val rfl (.inl rfl) (HV.as rfl) ?_
      refine AL.nx ?_
      refine AW.ret ?_
      refine ret_and ?_
      refine post_one rfl rfl ?_ (.inr rfl)
      exact ⟨rfl, X10⟩
    · -- else
      refine AW.skip ?_
      refine nrm_and ?_
      refine AW.rs ?_
      refine AL.val rfl (.inl rfl) (HV.mv rfl) ?_
      refine AL.w rfl (.inl rfl) (WV.call fn5 rfl (p6Prime_ok (hr.ext X10) hby)) ?_
      rintro _ H12 ⟨⟨p, rfl, h14⟩, hx13⟩
      have X15 := Ext.trans X10 hx13
      have hP := prime_of h14
      refine AL.val rfl (.inl rfl) (HV.as rfl) ?_
      refine AL.nx ?_
      refine AW.rs ?_
      refine AL.val rfl (.inl rfl) (HV.mv rfl) ?_
      refine AL.val rfl (.inl rfl) (HV.mv rfl) ?_
      refine AL.w rfl (.inl rfl) (WV.call fn6 rfl (p6Curve_ok (hr.ext X15) hby p 2 (by omega) (by omega))) ?_
      rintro v16 H17 ⟨⟨ca, ho19, h20⟩, hx18⟩
      have X22 := Ext.trans X15 hx18
      have X23 := Ext.refl H17
      have hr21 := ho19.rd
      have hca := h20.1
      have hcal := h20.2
      refine AL.val rfl (.inl rfl) (HV.as rfl) ?_
      refine AL.nx ?_
      refine AW.rs ?_
      refine AL.val rfl (.inl rfl) (HV.mv rfl) ?_
      refine AL.w rfl (.inl rfl) (WV.call fn7 rfl (p6Pick_ok (hr2.ext X22) hby2 2)) ?_
      rintro _ H24 ⟨⟨mo, rfl, h26⟩, hx25⟩
      have X27 := Ext.trans X22 hx25
      have X28 := Ext.trans X23 hx25
      have hmo : 0 ≤ mo ∧ mo ≤ 1 := ⟨h26.1, by have q := h26.2 (by decide); omega⟩
      refine AL.val rfl (.inl rfl) (HV.as rfl) ?_
      refine AL.nx ?_
      refine AW.rs ?_
      refine AL.val rfl (.inl rfl) (HV.mv rfl) ?_
      refine AL.val rfl (.inl rfl) (HV.mv rfl) ?_
      refine AL.w rfl (.inl rfl) (WV.call fn8 rfl (p6Points_ok (hr2.ext X27) hby2 p 4 (by omega) (by omega))) ?_
      rintro v29 H30 ⟨⟨pts, ho32, h33⟩, hx31⟩
      have X35 := Ext.trans X27 hx31
      have X36 := Ext.trans X28 hx31
      have X37 := Ext.refl H30
      have hr34 := ho32.rd
      have hpt : ptsI p pts := ⟨by have q := h33.2.1; omega, h33.1⟩
      have hpl := h33.2.2
      have hpl5 := h33.2.1
      refine AL.val rfl (.inl rfl) (HV.as rfl) ?_
      refine AL.nx ?_
      refine AW.rs ?_
      refine AL.val rfl (.inl rfl) (HV.mv rfl) ?_
      refine AL.val rfl (.inl rfl) (HV.mv rfl) ?_
      refine AL.val rfl (.inl rfl) (HV.mv rfl) ?_
      refine AL.w rfl (.inl rfl) (WV.call fn9 rfl (dealSh_ok p (hr21.ext X36) hr34 ⟨hP.1, hca⟩ hpt)) ?_
      rintro _ H39 ⟨⟨v38, rfl, hr41⟩, hx40⟩
      have X42 := Ext.trans X35 hx40
      have X43 := Ext.trans X36 hx40
      have X44 := Ext.trans X37 hx40
      have X45 := Ext.refl H39
      have hr46 : RdK (kP kI kI) W H39 _ v38 (dl p ca pts) := hr41.rd
      refine AL.val rfl (.inl rfl) (HV.mv rfl) ?_
      refine AL.val rfl (.inl rfl) (HV.ex rfl rfl) ?_
      refine AL.val rfl (.inl rfl) (HV.ex rfl rfl) ?_
      refine AL.val rfl (.inl rfl) (HV.as rfl) ?_
      refine AL.val rfl (.inl rfl) (HV.as rfl) ?_
      refine AL.nx ?_
      refine AW.rs ?_
      refine AL.val rfl (.inl rfl) (HV.mv rfl) ?_
      refine AL.val rfl (.inl rfl) (HV.mv rfl) ?_
      refine AL.val rfl (.inl rfl) (HV.mv rfl) ?_
      refine AL.val rfl (.inl rfl) (HV.mv rfl) ?_
      have hdv : ∀ j, j < (dl p ca pts).length → 0 ≤ ((dl p ca pts).getD j (0, 0)).2 ∧ ((dl p ca pts).getD j (0, 0)).2 ≤ p - 1 := fun j hj => vS_py (vS_dl hP.1 hpt) hj
      refine AL.w rfl (.inl rfl) (WV.call fn10 rfl (p6Spoil_ok (hr2.ext X42) hby2 hr46 p mo (by omega) (by omega) (by rw [dl_len]; omega) hdv)) ?_
      rintro v47 H48 ⟨⟨S, ho50, hsp⟩, hx49⟩
      have X52 := Ext.trans X42 hx49
      have X53 := Ext.trans X43 hx49
      have X54 := Ext.trans X44 hx49
      have X55 := Ext.trans X45 hx49
      have X56 := Ext.refl H48
      have hr51 := ho50.rd
      have hF := fin3 hP.1 hca (by omega) hpt ⟨by omega, by omega⟩ hmo hsp
      have hvS := hsp.valid (vS_dl hP.1 hpt)
      have hSl : S.length = pts.length := by have q := hsp.len; rw [dl_len] at q; exact q
      have hcode := hF.code
      have hnc := hF.ncode
      have hdll := dl_len p ca pts
      refine AL.val rfl (.inl rfl) (HV.as rfl) ?_
      refine AL.nx ?_
      refine AW.rs ?_
      refine AL.val rfl (.inl rfl) (HV.mv rfl) ?_
      refine AL.val rfl (.inl rfl) (HV.mv rfl) ?_
      refine AL.val rfl (.inl rfl) (HV.mv rfl) ?_
      have o69 := X52.bd
      have o70 := X53.bd
      have o71 := X54.bd
      have o72 := X55.bd
      have o73 := X56.bd
      refine AL.w rfl (.inl rfl) (WV.call fn11 rfl (implFS_ok hr51 p 2 mo (by omega))) ?_
      rintro _ H59 ⟨⟨v57, v58, HM63, rfl, hr61, hr62, x64, x65⟩, hx60⟩
      have X74 := Ext.trans X52 hx60
      have X75 := Ext.trans X53 hx60
      have X76 := Ext.trans X54 hx60
      have X77 := Ext.trans X55 hx60
      have X78 := Ext.trans X56 hx60
      have X79 := Ext.refl H59
      refine AL.val rfl (.inl rfl) (HV.mv rfl) ?_
      refine AL.val rfl (.inl rfl) (HV.ex rfl rfl) ?_
      refine AL.val rfl (.inl rfl) (HV.ex rfl rfl) ?_
      refine AL.val rfl (.inl rfl) (HV.ex rfl rfl) ?_
      refine AL.val rfl (.inl rfl) (HV.as rfl) ?_
      refine AL.val rfl (.inl rfl) (HV.as rfl) ?_
      refine AL.val rfl (.inl rfl) (HV.as rfl) ?_
      refine AL.nx ?_
      refine AW.rs ?_
      refine AL.val rfl (.inl rfl) (HV.mv rfl) ?_
      refine AL.val rfl (.inl rfl) (HV.mv rfl) ?_
      refine AL.val rfl (.inl rfl) (HV.mv rfl) ?_
      refine AL.w rfl (.inl rfl) (WV.call fn12 rfl (specFS_ok (hr51.ext X78) p 2 mo (by omega))) ?_
      rintro _ H82 ⟨⟨v80, v81, rfl, hr84, hr85⟩, hx83⟩
      have X92 := Ext.trans X74 hx83
      have X93 := Ext.trans X75 hx83
      have X94 := Ext.trans X76 hx83
      have X95 := Ext.trans X77 hx83
      have X96 := Ext.trans X78 hx83
      have X97 := Ext.trans X79 hx83
      have X98 := Ext.refl H82
      refine AL.val rfl (.inl rfl) (HV.mv rfl) ?_
      refine AL.val rfl (.inl rfl) (HV.ex rfl rfl) ?_
      refine AL.val rfl (.inl rfl) (HV.ex rfl rfl) ?_
      refine AL.val rfl (.inl rfl) (HV.ex rfl rfl) ?_
      refine AL.val rfl (.inl rfl) (HV.as rfl) ?_
      refine AL.val rfl (.inl rfl) (HV.as rfl) ?_
      refine AL.val rfl (.inl rfl) (HV.as rfl) ?_
      refine AL.nx ?_
      refine AW.seq ?_
      refine AW.rs ?_
      refine AL.val rfl (.inl rfl) (HV.mv rfl) ?_
      refine AL.val rfl (.inl rfl) (HV.nei rfl rfl) ?_
      refine AL.val rfl (.inl rfl) (HV.mv rfl) ?_
      by_cases c99 : (0 : Int) ≠ 0
      · -- true
        have c99_ : decide ((0 : Int) ≠ 0) = true := decide_eq_true c99
        rw [c99_]
        refine AL.off rfl rfl (by decide) rfl ?_
        refine AL.off rfl rfl (by decide) rfl ?_
        refine AL.off rfl rfl (by decide) rfl ?_
        refine AL.val rfl (.inl rfl) (HV.pickT rfl rfl) ?_
        refine AL.val rfl (.inl rfl) (HV.mv rfl) ?_
        refine AL.off rfl rfl (by decide) rfl ?_
        refine AL.off rfl rfl (by decide) rfl ?_
        refine AL.off rfl rfl (by decide) rfl ?_
        refine AL.off rfl rfl (by decide) rfl ?_
        refine AL.val rfl (.inl rfl) (HV.pickT rfl rfl) ?_
        refine AL.val rfl (.inl rfl) (HV.mv rfl) ?_
        refine AL.off rfl rfl (by decide) rfl ?_
        refine AL.off rfl rfl (by decide) rfl ?_
        refine AL.off rfl rfl (by decide) rfl ?_
        refine AL.off rfl rfl (by decide) rfl ?_
        refine AL.val rfl (.inl rfl) (HV.pickT rfl rfl) ?_
        refine AL.nx ?_
        refine AW.cond rfl (fun _ => ?_) (fun h => by cases h)
        refine AW.rs ?_
        refine AL.val rfl (.inl rfl) (HV.as rfl) ?_
        refine AL.nx ?_
        refine AW.ret ?_
        refine ret_and ?_
        refine post_one rfl rfl ?_ (.inr rfl)
        exfalso; first | omega | exact c99 rfl | (split at hcode <;> omega) | exact c99 (hF.cur hC0) | (simp at c99; done) | (have q := hnm (hwm.2 (by assumption)); rw [← hkk, ← hBm] at q; have q2 := q.2; omega) | (have q := congrArg List.length hBm; unfold missL at q; rw [show S.length = i by omega] at q; omega) | (have hcz2 := hF.each (_.getD i2 []) (by rw [← _]; exact getD_mem (by omega)); have q3 := hcz2.2.2; unfold missL at q3; rw [show S.length = j by omega] at q3; omega)
      · -- false
        have c99_ : decide ((0 : Int) ≠ 0) = false := decide_eq_false c99
        rw [c99_]
        refine AL.val rfl (.inr ⟨_, _, _, rfl, rfl, rfl⟩) (HV.mv rfl) ?_
        refine AL.val rfl (.inr ⟨_, _, _, rfl, rfl, rfl⟩) (HV.mv rfl) ?_
        refine AL.val rfl (.inr ⟨_, _, _, rfl, rfl, rfl⟩) (HV.nei rfl rfl) ?_
        refine AL.val rfl (.inl rfl) (HV.pickF rfl rfl) ?_
        refine AL.val rfl (.inl rfl) (HV.mv rfl) ?_
        by_cases c101 : (fsC p S 2 mo) ≠ (fsC p S 2 mo)
        · -- true
          have c101_ : decide ((fsC p S 2 mo) ≠ (fsC p S 2 mo)) = true := decide_eq_true c101
          rw [c101_]
          refine AL.off rfl rfl (by decide) rfl ?_
          refine AL.off rfl rfl (by decide) rfl ?_
          refine AL.off rfl rfl (by decide) rfl ?_
          refine AL.off rfl rfl (by decide) rfl ?_
          refine AL.val rfl (.inl rfl) (HV.pickT rfl rfl) ?_
          refine AL.val rfl (.inl rfl) (HV.mv rfl) ?_
          refine AL.off rfl rfl (by decide) rfl ?_
          refine AL.off rfl rfl (by decide) rfl ?_
          refine AL.off rfl rfl (by decide) rfl ?_
          refine AL.off rfl rfl (by decide) rfl ?_
          refine AL.val rfl (.inl rfl) (HV.pickT rfl rfl) ?_
          refine AL.nx ?_
          refine AW.cond rfl (fun _ => ?_) (fun h => by cases h)
          refine AW.rs ?_
          refine AL.val rfl (.inl rfl) (HV.as rfl) ?_
          refine AL.nx ?_
          refine AW.ret ?_
          refine ret_and ?_
          refine post_one rfl rfl ?_ (.inr rfl)
          exfalso; first | omega | exact c101 rfl | (split at hcode <;> omega) | exact c101 (hF.cur hC0) | (simp at c101; done) | (have q := hnm (hwm.2 (by assumption)); rw [← hkk, ← hBm] at q; have q2 := q.2; omega) | (have q := congrArg List.length hBm; unfold missL at q; rw [show S.length = i by omega] at q; omega) | (have hcz2 := hF.each (_.getD i2 []) (by rw [← _]; exact getD_mem (by omega)); have q3 := hcz2.2.2; unfold missL at q3; rw [show S.length = j by omega] at q3; omega)
        · -- false
          have c101_ : decide ((fsC p S 2 mo) ≠ (fsC p S 2 mo)) = false := decide_eq_false c101
          rw [c101_]
          refine AL.val rfl (.inr ⟨_, _, _, rfl, rfl, rfl⟩) (HV.mv rfl) ?_
          refine AL.val rfl (.inr ⟨_, _, _, rfl, rfl, rfl⟩) (HV.mv rfl) ?_
          refine AL.w rfl (.inr ⟨_, _, _, rfl, rfl, rfl⟩) (WV.call fn13 rfl (f6ints_ok (hr61.rd.ext X97) hr84)) ?_
          rintro _ H103 ⟨rfl, hx104⟩
          have X105 := Ext.trans X92 hx104
          have X106 := Ext.trans X93 hx104
          have X107 := Ext.trans X94 hx104
          have X108 := Ext.trans X95 hx104
          have X109 := Ext.trans X96 hx104
          have X110 := Ext.trans X97 hx104
          have X111 := Ext.trans X98 hx104
          refine AL.val rfl (.inr ⟨_, _, _, rfl, rfl, rfl⟩) (HV.not rfl) ?_
          refine AL.val rfl (.inl rfl) (HV.pickF rfl rfl) ?_
          refine AL.val rfl (.inl rfl) (HV.mv rfl) ?_
          by_cases c112 : (fsA p S 2 mo) = (fsA p S 2 mo)
          · -- false
            have c112_ : (!decide ((fsA p S 2 mo) = (fsA p S 2 mo))) = false := by rw [decide_eq_true c112]; rfl
            rw [c112_]
            refine AL.val rfl (.inr ⟨_, _, _, rfl, rfl, rfl⟩) (HV.mv rfl) ?_
            refine AL.val rfl (.inr ⟨_, _, _, rfl, rfl, rfl⟩) (HV.mv rfl) ?_
            refine AL.w rfl (.inr ⟨_, _, _, rfl, rfl, rfl⟩) (WV.call fn13 rfl (f6ints_ok (hr62.rd.ext X110) (hr85.ext X111))) ?_
            rintro _ H113 ⟨rfl, hx114⟩
            have X115 := Ext.trans X105 hx114
            have X116 := Ext.trans X106 hx114
            have X117 := Ext.trans X107 hx114
            have X118 := Ext.trans X108 hx114
            have X119 := Ext.trans X109 hx114
            have X120 := Ext.trans X110 hx114
            have X121 := Ext.trans X111 hx114
            refine AL.val rfl (.inr ⟨_, _, _, rfl, rfl, rfl⟩) (HV.not rfl) ?_
            refine AL.val rfl (.inl rfl) (HV.pickF rfl rfl) ?_
            refine AL.nx ?_
            refine AW.ifn rfl (fun c122 => ?_) (fun c122 => ?_)
            · -- then
              refine AW.rs ?_
              refine AL.val rfl (.inl rfl) (HV.as rfl) ?_
              refine AL.nx ?_
              refine AW.ret ?_
              refine ret_and ?_
              refine post_one rfl rfl ?_ (.inr rfl)
              exfalso; first | omega | exact c122 rfl | (split at hcode <;> omega) | exact c122 (hF.cur hC0) | (simp at c122; done) | (have q := hnm (hwm.2 (by assumption)); rw [← hkk, ← hBm] at q; have q2 := q.2; omega) | (have q := congrArg List.length hBm; unfold missL at q; rw [show S.length = i by omega] at q; omega) | (have hcz2 := hF.each (_.getD i2 []) (by rw [← _]; exact getD_mem (by omega)); have q3 := hcz2.2.2; unfold missL at q3; rw [show S.length = j by omega] at q3; omega)
            · -- else
              refine AW.skip ?_
              refine nrm_and ?_
              refine AW.seq ?_
              refine AW.rs ?_
              refine AL.val rfl (.inl rfl) (HV.mv rfl) ?_
              refine AL.val rfl (.inl rfl) (HV.nei rfl rfl) ?_
              refine AL.nx ?_
              refine AW.ifd rfl (fun c123 => ?_) (fun c123 => ?_)
              · -- then
                refine AW.rs ?_
                refine AL.val rfl (.inl rfl) (HV.mv rfl) ?_
                refine AL.val rfl (.inl rfl) (HV.eqi rfl rfl) ?_
                refine AL.val rfl (.inl rfl) (HV.mv rfl) ?_
                by_cases c124 : (fsC p S 2 mo) = 4
                · -- true
                  have c124_ : decide ((fsC p S 2 mo) = 4) = true := decide_eq_true c124
                  rw [c124_]
                  refine AL.val rfl (.inr ⟨_, _, _, rfl, rfl, rfl⟩) (HV.mv rfl) ?_
                  refine AL.val rfl (.inr ⟨_, _, _, rfl, rfl, rfl⟩) (HV.len Tryz.underlying25 rfl hr34.isSl) ?_
                  refine AL.val rfl (.inr ⟨_, _, _, rfl, rfl, rfl⟩) (HV.mv rfl) ?_
                  refine AL.val rfl (.inr ⟨_, _, _, rfl, rfl, rfl⟩) (HV.mul rfl rfl (by omega)) ?_
                  refine AL.val rfl (.inr ⟨_, _, _, rfl, rfl, rfl⟩) (HV.add rfl rfl (by omega)) ?_
                  refine AL.val rfl (.inr ⟨_, _, _, rfl, rfl, rfl⟩) (HV.lti rfl rfl) ?_
                  refine AL.val rfl (.inl rfl) (HV.pickT rfl rfl) ?_
                  refine AL.val rfl (.inl rfl) (HV.as rfl) ?_
                  refine AL.nx ?_
                  refine AW.ret ?_
                  refine ret_and ?_
                  refine post_one rfl rfl ?_ (.inr rfl)
                  exact ⟨congrArg Value.bool (decide_eq_true (by split at hcode <;> omega)), X115⟩
                · -- false
                  have c124_ : decide ((fsC p S 2 mo) = 4) = false := decide_eq_false c124
                  rw [c124_]
                  refine AL.off rfl rfl (by decide) rfl ?_
                  refine AL.off rfl rfl (by decide) rfl ?_
                  refine AL.off rfl rfl (by decide) rfl ?_
                  refine AL.off rfl rfl (by decide) rfl ?_
                  refine AL.off rfl rfl (by decide) rfl ?_
                  refine AL.off rfl rfl (by decide) rfl ?_
                  refine AL.val rfl (.inl rfl) (HV.pickF rfl rfl) ?_
                  refine AL.val rfl (.inl rfl) (HV.as rfl) ?_
                  refine AL.nx ?_
                  refine AW.ret ?_
                  refine ret_and ?_
                  refine post_one rfl rfl ?_ (.inr rfl)
                  exfalso; first | omega | exact c124 rfl | (split at hcode <;> omega) | exact c124 (hF.cur hC0) | (simp at c124; done) | (have q := hnm (hwm.2 (by assumption)); rw [← hkk, ← hBm] at q; have q2 := q.2; omega) | (have q := congrArg List.length hBm; unfold missL at q; rw [show S.length = i by omega] at q; omega) | (have hcz2 := hF.each (_.getD i2 []) (by rw [← _]; exact getD_mem (by omega)); have q3 := hcz2.2.2; unfold missL at q3; rw [show S.length = j by omega] at q3; omega)
              · -- else
                refine AW.skip ?_
                refine nrm_and ?_
                refine AW.rs ?_
                have hC0 : fsC p S 2 mo = 0 := by omega
                have hBm := hF.mis hC0
                have hAm := hF.cur hC0
                refine AL.val rfl (.inl rfl) (HV.as rfl) ?_
                refine AL.nx ?_
                refine AW.seq ?_
                refine AW.rs ?_
                refine AL.val rfl (.inl rfl) (HV.as rfl) ?_
                refine AL.nx ?_
                refine AW.block ?_
                have X125 := Ext.refl H113
                refine AW.loop (σ := Nat × Nat) (fun ⟨i, kk⟩ => [(5, .int .i64 p), (6, v16), (9, v38), (11, v47), (15, v80), (16, v81), (18, .int .i64 (kk : Int)), (19, .int .i64 (i : Int))]) (fun ⟨i, kk⟩ H' => Ext H H' ∧ Ext H17 H' ∧ Ext H30 H' ∧ Ext H39 H' ∧ Ext H48 H' ∧ Ext H59 H' ∧ Ext H82 H' ∧ Ext H113 H' ∧ i ≤ S.length ∧ kk = (missN p S ca i).length ∧ True) (fun ⟨i, kk⟩ => S.length - i) (0, 0) ⟨X115, X116, X117, X118, X119, X120, X121, X125, Nat.zero_le _, rfl, trivial⟩ ⟨rfl, rfl, rfl, rfl, rfl, rfl, rfl, rfl, trivial⟩ ?_
                rintro ⟨i, kk⟩ H126 ⟨X127, X128, X129, X130, X131, X132, X133, X134, hi, hkk, _⟩
                have hkkl := missN_len p S ca i
                have hS10 := vS_len hvS
                refine AW.seq ?_
                refine AW.rs ?_
                refine AL.val rfl (.inl rfl) (HV.mv rfl) ?_
                refine AL.val rfl (.inl rfl) (HV.mv rfl) ?_
                refine AL.val rfl (.inl rfl) (HV.len Tryz.underlying28 rfl hr51.isSl) ?_
                refine AL.val rfl (.inl rfl) (HV.lti rfl rfl) ?_
                refine AL.nx ?_
                refine AW.ifd rfl (fun c135 => ?_) (fun c135 => ?_)
                · -- then
                  refine AW.skip ?_
                  refine nrm_and ?_
                  refine AW.seq ?_
                  refine AW.block ?_
                  refine AW.seq ?_
                  refine AW.draw' [0, 0, 3, 7, 0, 0, 48, 112, 255, 511] mixed (by rfl) ?_
                  have hix : i < S.length := by omega
                  have hms := hsp.miss i (by omega)
                  have hnm := fun hm : missP p S ca i => named_at (p := p) hix hm
                  refine Dr.read 0 _ 112 _ rfl rfl rfl rfl rfl (RV.of (by intro _ _ h; cases h) (.inl rfl) (fun _ xd => HV.mv rfl)) ?_
                  refine Dr.read 1 _ 113 _ rfl rfl rfl rfl rfl (RV.of (by intro _ _ h; cases h) (.inl rfl) (fun _ xd => HV.mv rfl)) ?_
                  obtain ⟨p136, z137, cs138, hz139, hK140, hC141, hP142⟩ := RdK.ix (q := (i : Int)) hr51 sl28 (by omega) (by omega)
                  obtain ⟨cs143, cs144, rfl, hK145, hK146⟩ := hK140
                  obtain rfl : cs143 = [.int .i64 z137.1] := hK145
                  obtain rfl : cs144 = [.int .i64 z137.2] := hK146
                  refine Dr.read 2 _ 114 _ rfl rfl rfl rfl rfl (RV.of (by intro _ _ h; cases h) (.inl rfl) (fun _ xd => hP142 rfl rfl)) ?_
                  refine Dr.read 3 _ 115 _ rfl rfl rfl rfl rfl (RV.of (by intro _ _ h; cases h) (.inl rfl) (fun _ xd => HV.lda (cs := [.int .i64 z137.1, .int .i64 z137.2]) rfl va36 (fun j u hu => rdc_ext xd ((hC141.ext X131) j u hu)))) ?_
                  refine Dr.read 4 _ 116 _ rfl rfl rfl rfl rfl (RV.of (by intro _ _ h; cases h) (.inl rfl) (fun _ xd => HV.mv rfl)) ?_
                  refine Dr.read 5 _ 117 _ rfl rfl rfl rfl rfl (RV.of (by intro _ _ h; cases h) (.inl rfl) (fun _ xd => HV.mv rfl)) ?_
                  obtain ⟨p147, z148, cs149, hz150, hK151, hC152, hP153⟩ := RdK.ix (q := (i : Int)) hr46 sl28 (by omega) (by omega)
                  obtain ⟨cs154, cs155, rfl, hK156, hK157⟩ := hK151
                  obtain rfl : cs154 = [.int .i64 z148.1] := hK156
                  obtain rfl : cs155 = [.int .i64 z148.2] := hK157
                  refine Dr.read 6 _ 118 _ rfl rfl rfl rfl rfl (RV.of (by intro _ _ h; cases h) (.inl rfl) (fun _ xd => hP153 rfl rfl)) ?_
                  refine Dr.read 7 _ 119 _ rfl rfl rfl rfl rfl (RV.of (by intro _ _ h; cases h) (.inl rfl) (fun _ xd => HV.lda (cs := [.int .i64 z148.1, .int .i64 z148.2]) rfl va36 (fun j u hu => rdc_ext xd ((hC152.ext X130) j u hu)))) ?_
                  refine Dr.read 8 _ 120 _ rfl rfl rfl rfl rfl (RV.of (by intro _ _ h; cases h) (.inl rfl) (fun _ xd => HV.neSh rfl rfl)) ?_
                  refine Dr.read 9 _ 20 _ rfl rfl rfl rfl rfl (RV.of (by intro _ _ h; cases h) (.inl rfl) (fun _ xd => HV.as rfl)) ?_
                  refine Dr.fin rfl ?_
                  refine nrm_and ?_
                  refine AW.seq ?_
                  refine AW.rs ?_
                  have hwm : missP p S ca i ↔ ¬ (z137.1 = z148.1 ∧ z137.2 = z148.2) := by rw [hms, (gd (d := (0, 0)) hz139 rfl : S.getD i (0, 0) = z137), (gd (d := (0, 0)) hz150 rfl : (dl p ca pts).getD i (0, 0) = z148)]; exact not_congr Prod.ext_iff
                  refine AL.val rfl (.inl rfl) (HV.mv rfl) ?_
                  refine AL.val rfl (.inl rfl) (HV.mv rfl) ?_
                  by_cases c158 : ¬ (z137.1 = z148.1 ∧ z137.2 = z148.2)
                  · -- true
                    have c158_ : decide (¬ (z137.1 = z148.1 ∧ z137.2 = z148.2)) = true := decide_eq_true c158
                    rw [c158_]
                    refine AL.val rfl (.inr ⟨_, _, _, rfl, rfl, rfl⟩) (HV.mv rfl) ?_
                    refine AL.val rfl (.inr ⟨_, _, _, rfl, rfl, rfl⟩) (HV.mv rfl) ?_
                    refine AL.val rfl (.inr ⟨_, _, _, rfl, rfl, rfl⟩) (HV.len Tryz.underlying25 rfl hr85.isSl) ?_
                    refine AL.val rfl (.inr ⟨_, _, _, rfl, rfl, rfl⟩) (HV.gei rfl rfl) ?_
                    refine AL.val rfl (.inr ⟨_, _, _, rfl, rfl, rfl⟩) (HV.mv rfl) ?_
                    by_cases c159 : (kk : Int) ≥ ((fsB p S 2 mo).length : Int)
                    · -- true
                      have c159_ : decide ((kk : Int) ≥ ((fsB p S 2 mo).length : Int)) = true := decide_eq_true c159
                      rw [c159_]
                      refine AL.off rfl rfl (by decide) rfl ?_
                      refine AL.off rfl rfl (by decide) rfl ?_
                      refine AL.off rfl rfl (by decide) rfl ?_
                      refine AL.off rfl rfl (by decide) rfl ?_
                      refine AL.off rfl rfl (by decide) rfl ?_
                      refine AL.off rfl rfl (by decide) rfl ?_
                      refine AL.val rfl (.inr ⟨_, _, _, rfl, rfl, rfl⟩) (HV.pickT rfl rfl) ?_
                      refine AL.val rfl (.inl rfl) (HV.pickT rfl rfl) ?_
                      refine AL.nx ?_
                      refine AW.cond rfl (fun _ => ?_) (fun h => by cases h)
                      refine AW.rs ?_
                      refine AL.val rfl (.inl rfl) (HV.as rfl) ?_
                      refine AL.nx ?_
                      refine AW.ret ?_
                      refine ret_and (ret_blk (ret_and (ret_and (ret_blk (ret_and ?_)))))
                      refine post_one rfl rfl ?_ (.inr rfl)
                      exfalso; first | omega | exact c159 rfl | (split at hcode <;> omega) | exact c159 (hF.cur hC0) | (simp at c159; done) | (have q := hnm (hwm.2 (by assumption)); rw [← hkk, ← hBm] at q; have q2 := q.2; omega) | (have q := congrArg List.length hBm; unfold missL at q; rw [show S.length = i by omega] at q; omega) | (have hcz2 := hF.each (_.getD i2 []) (by rw [← _]; exact getD_mem (by omega)); have q3 := hcz2.2.2; unfold missL at q3; rw [show S.length = j by omega] at q3; omega)
                    · -- false
                      have c159_ : decide ((kk : Int) ≥ ((fsB p S 2 mo).length : Int)) = false := decide_eq_false c159
                      rw [c159_]
                      refine AL.val rfl (.inr ⟨_, _, _, rfl, rfl, rfl⟩) (HV.mv rfl) ?_
                      refine AL.val rfl (.inr ⟨_, _, _, rfl, rfl, rfl⟩) (HV.mv rfl) ?_
                      obtain ⟨p161, z162, cs163, hz164, hK165, hC166, hP167⟩ := RdK.ix (q := (kk : Int)) hr85 sl25 (by omega) (by omega)
                      obtain rfl : cs163 = [.int .i64 z162] := hK165
                      refine AL.val rfl (.inr ⟨_, _, _, rfl, rfl, rfl⟩) (hP167 rfl rfl) ?_
                      refine AL.val rfl (.inr ⟨_, _, _, rfl, rfl, rfl⟩) (HV.ld rfl va2 (cells_first (hC166.ext X133) rfl)) ?_
                      refine AL.val rfl (.inr ⟨_, _, _, rfl, rfl, rfl⟩) (HV.mv rfl) ?_
                      refine AL.val rfl (.inr ⟨_, _, _, rfl, rfl, rfl⟩) (HV.nei rfl rfl) ?_
                      refine AL.val rfl (.inr ⟨_, _, _, rfl, rfl, rfl⟩) (HV.pickF rfl rfl) ?_
                      refine AL.val rfl (.inl rfl) (HV.pickT rfl rfl) ?_
                      refine AL.nx ?_
                      refine AW.ifd rfl (fun c168 => ?_) (fun c168 => ?_)
                      · -- then
                        refine AW.rs ?_
                        refine AL.val rfl (.inl rfl) (HV.as rfl) ?_
                        refine AL.nx ?_
                        refine AW.ret ?_
                        refine ret_and (ret_blk (ret_and (ret_and (ret_blk (ret_and ?_)))))
                        refine post_one rfl rfl ?_ (.inr rfl)
                        exfalso; first | omega | exact c168 rfl | (split at hcode <;> omega) | exact c168 (hF.cur hC0) | (simp at c168; done) | (have q := hnm (hwm.2 (by assumption)); rw [← hkk, ← hBm] at q; have q2 := q.2; rw [gd hz164 (by omega)] at q2; omega) | (have q := congrArg List.length hBm; unfold missL at q; rw [show S.length = i by omega] at q; omega) | (have hcz2 := hF.each (_.getD i2 []) (by rw [← _]; exact getD_mem (by omega)); have q3 := hcz2.2.2; unfold missL at q3; rw [show S.length = j by omega] at q3; omega)
                      · -- else
                        refine AW.skip ?_
                        refine nrm_and ?_
                        refine AW.rs ?_
                        refine AL.val rfl (.inl rfl) (HV.mv rfl) ?_
                        refine AL.nx ?_
                        refine AW.cond rfl (fun _ => ?_) (fun h => by cases h)
                        refine AW.reg ?_
                        refine AL.val rfl (.inl rfl) (HV.mv rfl) ?_
                        refine AL.val rfl (.inl rfl) (HV.add rfl rfl (by omega)) ?_
                        have hC0 : fsC p S 2 mo = 0 := by omega
                        have hBm := hF.mis hC0
                        have hAm := hF.cur hC0
                        refine AL.val rfl (.inl rfl) (HV.as rfl) ?_
                        refine AL.nil ?_
                        refine nrm_blk (nrm_and ?_)
                        refine AW.reg ?_
                        refine AL.val rfl (.inl rfl) (HV.mv rfl) ?_
                        refine AL.val rfl (.inl rfl) (HV.add rfl rfl (by omega)) ?_
                        refine AL.val rfl (.inl rfl) (HV.as rfl) ?_
                        refine AL.nil ?_
                        refine nrm_and ?_
                        exact ⟨(i + 1, kk + 1), ⟨X127, X128, X129, X130, X131, X132, X133, X134, by omega, by first | (rw [missN_y (hwm.2 (by first | assumption | omega)), List.length_append, ← hkk]; rfl) | (rw [missN_n (fun q => absurd (hwm.1 q) (by first | assumption | (exact fun z => absurd z (by assumption)))), ← hkk]), trivial⟩, by first | omega | (dsimp only; omega), ⟨rfl, rfl, rfl, rfl, rfl, rfl, rfl, rfl, trivial⟩⟩
                  · -- false
                    have c158_ : decide (¬ (z137.1 = z148.1 ∧ z137.2 = z148.2)) = false := decide_eq_false c158
                    rw [c158_]
                    refine AL.off rfl rfl (by decide) rfl ?_
                    refine AL.off rfl rfl (by decide) rfl ?_
                    refine AL.off rfl rfl (by decide) rfl ?_
                    refine AL.off rfl rfl (by decide) rfl ?_
                    refine AL.off rfl rfl (by decide) rfl ?_
                    refine AL.offu rfl rfl rfl ?_
                    refine AL.offu rfl rfl rfl ?_
                    refine AL.offu rfl rfl rfl ?_
                    refine AL.offu rfl rfl rfl ?_
                    refine AL.offu rfl rfl rfl ?_
                    refine AL.offu rfl rfl rfl ?_
                    refine AL.off rfl rfl (by decide) rfl ?_
                    refine AL.val rfl (.inl rfl) (HV.pickF rfl rfl) ?_
                    refine AL.nx ?_
                    refine AW.cond rfl (fun h => by cases h) (fun _ => ?_)
                    refine AW.skip ?_
                    refine nrm_and ?_
                    refine AW.rs ?_
                    refine AL.val rfl (.inl rfl) (HV.mv rfl) ?_
                    refine AL.nx ?_
                    refine AW.cond rfl (fun h => by cases h) (fun _ => ?_)
                    refine AW.skip ?_
                    refine nrm_blk (nrm_and ?_)
                    refine AW.reg ?_
                    refine AL.val rfl (.inl rfl) (HV.mv rfl) ?_
                    refine AL.val rfl (.inl rfl) (HV.add rfl rfl (by omega)) ?_
                    refine AL.val rfl (.inl rfl) (HV.as rfl) ?_
                    refine AL.nil ?_
                    refine nrm_and ?_
                    exact ⟨(i + 1, kk), ⟨X127, X128, X129, X130, X131, X132, X133, X134, by omega, by first | (rw [missN_y (hwm.2 (by first | assumption | omega)), List.length_append, ← hkk]; rfl) | (rw [missN_n (fun q => absurd (hwm.1 q) (by first | assumption | (exact fun z => absurd z (by assumption)))), ← hkk]), trivial⟩, by first | omega | (dsimp only; omega), ⟨rfl, rfl, rfl, rfl, rfl, rfl, rfl, rfl, trivial⟩⟩
                · -- else
                  refine AW.exit ?_
                  refine ex_and (ex_and (ex_blk ?_))
                  refine nrm_and ?_
                  refine AW.rs ?_
                  refine AL.val rfl (.inl rfl) (HV.mv rfl) ?_
                  refine AL.val rfl (.inl rfl) (HV.mv rfl) ?_
                  have X172 := Ext.refl H126
                  have o173 := X127.bd
                  have o174 := X128.bd
                  have o175 := X129.bd
                  have o176 := X130.bd
                  have o177 := X131.bd
                  have o178 := X132.bd
                  have o179 := X133.bd
                  have o180 := X134.bd
                  have o181 := X172.bd
                  refine AL.w rfl (.inl rfl) (WV.call fn14 rfl (implNC_ok (hr51.ext X131) p 2 3 (by omega))) ?_
                  rintro _ H185 ⟨⟨v182, k183, rfl, hk184, ho187⟩, hx186⟩
                  have X189 := Ext.trans X127 hx186
                  have X190 := Ext.trans X128 hx186
                  have X191 := Ext.trans X129 hx186
                  have X192 := Ext.trans X130 hx186
                  have X193 := Ext.trans X131 hx186
                  have X194 := Ext.trans X132 hx186
                  have X195 := Ext.trans X133 hx186
                  have X196 := Ext.trans X134 hx186
                  have X197 := Ext.trans X172 hx186
                  have X198 := Ext.refl H185
                  have hr188 := rd_ofO ho187.rd
                  refine AL.val rfl (.inl rfl) (HV.mv rfl) ?_
                  refine AL.val rfl (.inl rfl) (HV.ex rfl rfl) ?_
                  refine AL.val rfl (.inl rfl) (HV.ex rfl rfl) ?_
                  refine AL.val rfl (.inl rfl) (HV.as rfl) ?_
                  refine AL.val rfl (.inl rfl) (HV.as rfl) ?_
                  refine AL.nx ?_
                  refine AW.rs ?_
                  refine AL.val rfl (.inl rfl) (HV.mv rfl) ?_
                  refine AL.val rfl (.inl rfl) (HV.mv rfl) ?_
                  refine AL.w rfl (.inl rfl) (WV.call fn15 rfl (specNC2_ok (hr51.ext X193) p 2 3 (by omega))) ?_
                  rintro _ H202 ⟨⟨v199, k200, rfl, hk201, hr204⟩, hx203⟩
                  have X205 := Ext.trans X189 hx203
                  have X206 := Ext.trans X190 hx203
                  have X207 := Ext.trans X191 hx203
                  have X208 := Ext.trans X192 hx203
                  have X209 := Ext.trans X193 hx203
                  have X210 := Ext.trans X194 hx203
                  have X211 := Ext.trans X195 hx203
                  have X212 := Ext.trans X196 hx203
                  have X213 := Ext.trans X197 hx203
                  have X214 := Ext.trans X198 hx203
                  have X215 := Ext.refl H202
                  refine AL.val rfl (.inl rfl) (HV.mv rfl) ?_
                  refine AL.val rfl (.inl rfl) (HV.ex rfl rfl) ?_
                  refine AL.val rfl (.inl rfl) (HV.ex rfl rfl) ?_
                  refine AL.val rfl (.inl rfl) (HV.as rfl) ?_
                  refine AL.val rfl (.inl rfl) (HV.as rfl) ?_
                  refine AL.nx ?_
                  refine AW.seq ?_
                  refine AW.rs ?_
                  refine AL.val rfl (.inl rfl) (HV.mv rfl) ?_
                  refine AL.val rfl (.inl rfl) (HV.mv rfl) ?_
                  refine AL.val rfl (.inl rfl) (HV.nei rfl rfl) ?_
                  refine AL.val rfl (.inl rfl) (HV.mv rfl) ?_
                  by_cases c216 : (neC p S 2 3) ≠ (neC p S 2 3)
                  · -- true
                    have c216_ : decide ((neC p S 2 3) ≠ (neC p S 2 3)) = true := decide_eq_true c216
                    rw [c216_]
                    refine AL.off rfl rfl (by decide) rfl ?_
                    refine AL.off rfl rfl (by decide) rfl ?_
                    refine AL.val rfl (.inl rfl) (HV.pickT rfl rfl) ?_
                    refine AL.val rfl (.inl rfl) (HV.mv rfl) ?_
                    refine AL.off rfl rfl (by decide) rfl ?_
                    refine AL.off rfl rfl (by decide) rfl ?_
                    refine AL.off rfl rfl (by decide) rfl ?_
                    refine AL.off rfl rfl (by decide) rfl ?_
                    refine AL.val rfl (.inl rfl) (HV.pickT rfl rfl) ?_
                    refine AL.val rfl (.inl rfl) (HV.mv rfl) ?_
                    refine AL.off rfl rfl (by decide) rfl ?_
                    refine AL.off rfl rfl (by decide) rfl ?_
                    refine AL.off rfl rfl (by decide) rfl ?_
                    refine AL.off rfl rfl (by decide) rfl ?_
                    refine AL.val rfl (.inl rfl) (HV.pickT rfl rfl) ?_
                    refine AL.val rfl (.inl rfl) (HV.mv rfl) ?_
                    refine AL.off rfl rfl (by decide) rfl ?_
                    refine AL.off rfl rfl (by decide) rfl ?_
                    refine AL.off rfl rfl (by decide) rfl ?_
                    refine AL.off rfl rfl (by decide) rfl ?_
                    refine AL.val rfl (.inl rfl) (HV.pickT rfl rfl) ?_
                    refine AL.nx ?_
                    refine AW.cond rfl (fun _ => ?_) (fun h => by cases h)
                    refine AW.rs ?_
                    refine AL.val rfl (.inl rfl) (HV.as rfl) ?_
                    refine AL.nx ?_
                    refine AW.ret ?_
                    refine ret_and ?_
                    refine post_one rfl rfl ?_ (.inr rfl)
                    exfalso; first | omega | exact c216 rfl | (split at hcode <;> omega) | exact c216 (hF.cur hC0) | (simp at c216; done) | exact absurd (hk184.trans hk201.symm) c216 | exact absurd (hk201.trans hk184.symm) c216 | (have q := hnm (hwm.2 (by assumption)); rw [← hkk, ← hBm] at q; have q2 := q.2; omega) | (have q := congrArg List.length hBm; unfold missL at q; rw [show S.length = i by omega] at q; omega) | (have hcz2 := hF.each (_.getD i2 []) (by rw [← _]; exact getD_mem (by omega)); have q3 := hcz2.2.2; unfold missL at q3; rw [show S.length = j by omega] at q3; omega)
                  · -- false
                    have c216_ : decide ((neC p S 2 3) ≠ (neC p S 2 3)) = false := decide_eq_false c216
                    rw [c216_]
                    refine AL.val rfl (.inr ⟨_, _, _, rfl, rfl, rfl⟩) (HV.mv rfl) ?_
                    refine AL.val rfl (.inr ⟨_, _, _, rfl, rfl, rfl⟩) (HV.nei rfl rfl) ?_
                    refine AL.val rfl (.inl rfl) (HV.pickF rfl rfl) ?_
                    refine AL.val rfl (.inl rfl) (HV.mv rfl) ?_
                    by_cases c218 : (neC p S 2 3) ≠ 0
                    · -- true
                      have c218_ : decide ((neC p S 2 3) ≠ 0) = true := decide_eq_true c218
                      rw [c218_]
                      refine AL.off rfl rfl (by decide) rfl ?_
                      refine AL.off rfl rfl (by decide) rfl ?_
                      refine AL.off rfl rfl (by decide) rfl ?_
                      refine AL.off rfl rfl (by decide) rfl ?_
                      refine AL.val rfl (.inl rfl) (HV.pickT rfl rfl) ?_
                      refine AL.val rfl (.inl rfl) (HV.mv rfl) ?_
                      refine AL.off rfl rfl (by decide) rfl ?_
                      refine AL.off rfl rfl (by decide) rfl ?_
                      refine AL.off rfl rfl (by decide) rfl ?_
                      refine AL.off rfl rfl (by decide) rfl ?_
                      refine AL.val rfl (.inl rfl) (HV.pickT rfl rfl) ?_
                      refine AL.val rfl (.inl rfl) (HV.mv rfl) ?_
                      refine AL.off rfl rfl (by decide) rfl ?_
                      refine AL.off rfl rfl (by decide) rfl ?_
                      refine AL.off rfl rfl (by decide) rfl ?_
                      refine AL.off rfl rfl (by decide) rfl ?_
                      refine AL.val rfl (.inl rfl) (HV.pickT rfl rfl) ?_
                      refine AL.nx ?_
                      refine AW.cond rfl (fun _ => ?_) (fun h => by cases h)
                      refine AW.rs ?_
                      refine AL.val rfl (.inl rfl) (HV.as rfl) ?_
                      refine AL.nx ?_
                      refine AW.ret ?_
                      refine ret_and ?_
                      refine post_one rfl rfl ?_ (.inr rfl)
                      exfalso; first | omega | exact c218 rfl | (split at hcode <;> omega) | exact c218 (hF.cur hC0) | (simp at c218; done) | exact absurd (hk184.trans hk201.symm) c218 | exact absurd (hk201.trans hk184.symm) c218 | (have q := hnm (hwm.2 (by assumption)); rw [← hkk, ← hBm] at q; have q2 := q.2; omega) | (have q := congrArg List.length hBm; unfold missL at q; rw [show S.length = i by omega] at q; omega) | (have hcz2 := hF.each (_.getD i2 []) (by rw [← _]; exact getD_mem (by omega)); have q3 := hcz2.2.2; unfold missL at q3; rw [show S.length = j by omega] at q3; omega)
                    · -- false
                      have c218_ : decide ((neC p S 2 3) ≠ 0) = false := decide_eq_false c218
                      rw [c218_]
                      refine AL.val rfl (.inr ⟨_, _, _, rfl, rfl, rfl⟩) (HV.mv rfl) ?_
                      refine AL.val rfl (.inr ⟨_, _, _, rfl, rfl, rfl⟩) (HV.mv rfl) ?_
                      refine AL.w rfl (.inr ⟨_, _, _, rfl, rfl, rfl⟩) (WV.call fn16 rfl (f6rows_ok (hr188.ext X214) hr204)) ?_
                      rintro _ H220 ⟨rfl, hx221⟩
                      have X222 := Ext.trans X205 hx221
                      have X223 := Ext.trans X206 hx221
                      have X224 := Ext.trans X207 hx221
                      have X225 := Ext.trans X208 hx221
                      have X226 := Ext.trans X209 hx221
                      have X227 := Ext.trans X210 hx221
                      have X228 := Ext.trans X211 hx221
                      have X229 := Ext.trans X212 hx221
                      have X230 := Ext.trans X213 hx221
                      have X231 := Ext.trans X214 hx221
                      have X232 := Ext.trans X215 hx221
                      refine AL.val rfl (.inr ⟨_, _, _, rfl, rfl, rfl⟩) (HV.not rfl) ?_
                      refine AL.val rfl (.inl rfl) (HV.pickF rfl rfl) ?_
                      refine AL.val rfl (.inl rfl) (HV.mv rfl) ?_
                      by_cases c233 : k183 = k200
                      · -- false
                        have c233_ : (!decide (k183 = k200)) = false := by rw [decide_eq_true c233]; rfl
                        rw [c233_]
                        refine AL.val rfl (.inr ⟨_, _, _, rfl, rfl, rfl⟩) (HV.mv rfl) ?_
                        refine AL.val rfl (.inr ⟨_, _, _, rfl, rfl, rfl⟩) (HV.mv rfl) ?_
                        refine AL.w rfl (.inr ⟨_, _, _, rfl, rfl, rfl⟩) (WV.call fn13 rfl (f6ints_ok (hr84.ext X228) (hr21.ext X223))) ?_
                        rintro _ H234 ⟨rfl, hx235⟩
                        have X236 := Ext.trans X222 hx235
                        have X237 := Ext.trans X223 hx235
                        have X238 := Ext.trans X224 hx235
                        have X239 := Ext.trans X225 hx235
                        have X240 := Ext.trans X226 hx235
                        have X241 := Ext.trans X227 hx235
                        have X242 := Ext.trans X228 hx235
                        have X243 := Ext.trans X229 hx235
                        have X244 := Ext.trans X230 hx235
                        have X245 := Ext.trans X231 hx235
                        have X246 := Ext.trans X232 hx235
                        refine AL.val rfl (.inr ⟨_, _, _, rfl, rfl, rfl⟩) (HV.not rfl) ?_
                        refine AL.val rfl (.inl rfl) (HV.pickF rfl rfl) ?_
                        refine AL.val rfl (.inl rfl) (HV.mv rfl) ?_
                        by_cases c247 : (fsA p S 2 mo) = ca
                        · -- false
                          have c247_ : (!decide ((fsA p S 2 mo) = ca)) = false := by rw [decide_eq_true c247]; rfl
                          rw [c247_]
                          refine AL.val rfl (.inr ⟨_, _, _, rfl, rfl, rfl⟩) (HV.mv rfl) ?_
                          refine AL.val rfl (.inr ⟨_, _, _, rfl, rfl, rfl⟩) (HV.mv rfl) ?_
                          refine AL.val rfl (.inr ⟨_, _, _, rfl, rfl, rfl⟩) (HV.len Tryz.underlying25 rfl hr85.isSl) ?_
                          refine AL.val rfl (.inr ⟨_, _, _, rfl, rfl, rfl⟩) (HV.nei rfl rfl) ?_
                          refine AL.val rfl (.inl rfl) (HV.pickF rfl rfl) ?_
                          refine AL.nx ?_
                          refine AW.ifd rfl (fun c248 => ?_) (fun c248 => ?_)
                          · -- then
                            refine AW.rs ?_
                            refine AL.val rfl (.inl rfl) (HV.as rfl) ?_
                            refine AL.nx ?_
                            refine AW.ret ?_
                            refine ret_and ?_
                            refine post_one rfl rfl ?_ (.inr rfl)
                            exfalso; first | omega | exact c248 rfl | (split at hcode <;> omega) | exact c248 (hF.cur hC0) | (simp at c248; done) | exact absurd (hk184.trans hk201.symm) c248 | exact absurd (hk201.trans hk184.symm) c248 | (have q := hnm (hwm.2 (by assumption)); rw [← hkk, ← hBm] at q; have q2 := q.2; omega) | (have q := congrArg List.length hBm; unfold missL at q; rw [show S.length = i by omega] at q; omega) | (have hcz2 := hF.each (_.getD i2 []) (by rw [← _]; exact getD_mem (by omega)); have q3 := hcz2.2.2; unfold missL at q3; rw [show S.length = j by omega] at q3; omega)
                          · -- else
                            refine AW.skip ?_
                            refine nrm_and ?_
                            refine AW.rs ?_
                            have hK := hF.mem
                            rw [← hk201] at hK
                            have hkL := (neL_short p S 2 3).1
                            rw [← hk201] at hkL
                            refine AL.val rfl (.inl rfl) (HV.as rfl) ?_
                            refine AL.nx ?_
                            refine AW.seq ?_
                            refine AW.rs ?_
                            refine AL.val rfl (.inl rfl) (HV.as rfl) ?_
                            refine AL.nx ?_
                            refine AW.block ?_
                            have X249 := Ext.refl H234
                            refine AW.loop (σ := Nat × Bool) (fun ⟨i2, fd⟩ => [(5, .int .i64 p), (6, v16), (11, v47), (23, v199), (25, .bool fd), (26, .int .i64 (i2 : Int))]) (fun ⟨i2, fd⟩ H' => Ext H H' ∧ Ext H17 H' ∧ Ext H30 H' ∧ Ext H39 H' ∧ Ext H48 H' ∧ Ext H59 H' ∧ Ext H82 H' ∧ Ext H113 H' ∧ Ext H126 H' ∧ Ext H185 H' ∧ Ext H202 H' ∧ Ext H234 H' ∧ i2 ≤ k200.length ∧ (∀ e, e < i2 → k200.getD e [] = ca → fd = true) ∧ True) (fun ⟨i2, fd⟩ => k200.length - i2) (0, false) ⟨X236, X237, X238, X239, X240, X241, X242, X243, X244, X245, X246, X249, Nat.zero_le _, fun e he => absurd he (Nat.not_lt_zero _), trivial⟩ ⟨rfl, rfl, rfl, rfl, rfl, rfl, trivial⟩ ?_
                            rintro ⟨i2, fd⟩ H250 ⟨X251, X252, X253, X254, X255, X256, X257, X258, X259, X260, X261, X262, hi2, hfd, _⟩
                            refine AW.seq ?_
                            refine AW.rs ?_
                            refine AL.val rfl (.inl rfl) (HV.mv rfl) ?_
                            refine AL.val rfl (.inl rfl) (HV.mv rfl) ?_
                            refine AL.val rfl (.inl rfl) (HV.len Tryz.underlying37 rfl hr204.isSl) ?_
                            refine AL.val rfl (.inl rfl) (HV.lti rfl rfl) ?_
                            refine AL.nx ?_
                            refine AW.ifd rfl (fun c263 => ?_) (fun c263 => ?_)
                            · -- then
                              refine AW.skip ?_
                              refine nrm_and ?_
                              refine AW.seq ?_
                              refine AW.block ?_
                              refine AW.rs ?_
                              refine AL.val rfl (.inl rfl) (HV.mv rfl) ?_
                              refine AL.val rfl (.inl rfl) (HV.mv rfl) ?_
                              cases c264 : fd
                              · -- false
                                refine AL.val rfl (.inr ⟨_, _, _, rfl, rfl, rfl⟩) (HV.mv rfl) ?_
                                refine AL.val rfl (.inr ⟨_, _, _, rfl, rfl, rfl⟩) (HV.mv rfl) ?_
                                obtain ⟨p265, z266, cs267, hz268, hK269, hC270, hP271⟩ := RdK.ix (q := (i2 : Int)) hr204 sl37 (by omega) (by omega)
                                obtain ⟨v272, rfl, hr273⟩ := hK269
                                have hm274 := hr273.max
                                refine AL.val rfl (.inr ⟨_, _, _, rfl, rfl, rfl⟩) (hP271 rfl rfl) ?_
                                refine AL.val rfl (.inr ⟨_, _, _, rfl, rfl, rfl⟩) (HV.ld rfl va25 (cells_first (hC270.ext X261) rfl)) ?_
                                refine AL.val rfl (.inr ⟨_, _, _, rfl, rfl, rfl⟩) (HV.mv rfl) ?_
                                refine AL.w rfl (.inr ⟨_, _, _, rfl, rfl, rfl⟩) (WV.call fn13 rfl (f6ints_ok (hr273.ext X261) (hr21.ext X252))) ?_
                                rintro _ H275 ⟨rfl, hx276⟩
                                have X277 := Ext.trans X251 hx276
                                have X278 := Ext.trans X252 hx276
                                have X279 := Ext.trans X253 hx276
                                have X280 := Ext.trans X254 hx276
                                have X281 := Ext.trans X255 hx276
                                have X282 := Ext.trans X256 hx276
                                have X283 := Ext.trans X257 hx276
                                have X284 := Ext.trans X258 hx276
                                have X285 := Ext.trans X259 hx276
                                have X286 := Ext.trans X260 hx276
                                have X287 := Ext.trans X261 hx276
                                have X288 := Ext.trans X262 hx276
                                refine AL.val rfl (.inl rfl) (HV.pickF rfl rfl) ?_
                                have hK := hF.mem
                                rw [← hk201] at hK
                                have hkL := (neL_short p S 2 3).1
                                rw [← hk201] at hkL
                                refine AL.val rfl (.inl rfl) (HV.as rfl) ?_
                                refine AL.nx ?_
                                refine AW.rs ?_
                                refine AL.val rfl (.inl rfl) (HV.as rfl) ?_
                                refine AL.nx ?_
                                refine AW.seq ?_
                                refine AW.rs ?_
                                refine AL.val rfl (.inl rfl) (HV.as rfl) ?_
                                refine AL.nx ?_
                                refine AW.block ?_
                                have X289 := Ext.refl H275
                                refine AW.loop (σ := Nat × Int) (fun ⟨j, ht⟩ => [(5, .int .i64 p), (6, v16), (11, v47), (23, v199), (25, .bool (decide (z266 = ca))), (26, .int .i64 (i2 : Int)), (176, .int .i64 (i2 : Int)), (177, v199), (178, .int .i64 (k200.length : Int)), (179, .bool (decide ((i2 : Int) < (k200.length : Int)))), (182, .bool false), (183, .bool false), (184, v199), (185, .int .i64 (i2 : Int)), (186, .pointer (some p265)), (187, v272), (188, v16), (189, .bool (decide (z266 = ca))), (190, .bool (decide (z266 = ca))), (27, .int .i64 ht), (28, .int .i64 (j : Int))]) (fun ⟨j, ht⟩ H' => Ext H H' ∧ Ext H17 H' ∧ Ext H30 H' ∧ Ext H39 H' ∧ Ext H48 H' ∧ Ext H59 H' ∧ Ext H82 H' ∧ Ext H113 H' ∧ Ext H126 H' ∧ Ext H185 H' ∧ Ext H202 H' ∧ Ext H234 H' ∧ Ext H275 H' ∧ j ≤ S.length ∧ 0 ≤ ht ∧ ht + ((missN p S (k200.getD i2 []) j).length : Int) = (j : Int) ∧ True) (fun ⟨j, ht⟩ => S.length - j) (0, 0) ⟨X277, X278, X279, X280, X281, X282, X283, X284, X285, X286, X287, X288, X289, Nat.zero_le _, Int.le_refl _, rfl, trivial⟩ ⟨rfl, rfl, rfl, rfl, rfl, rfl, rfl, rfl, rfl, rfl, rfl, rfl, rfl, rfl, rfl, rfl, rfl, rfl, rfl, rfl, rfl, trivial⟩ ?_
                                rintro ⟨j, ht⟩ H290 ⟨X291, X292, X293, X294, X295, X296, X297, X298, X299, X300, X301, X302, X303, hj, hht0, hht, _⟩
                                refine AW.seq ?_
                                refine AW.rs ?_
                                refine AL.val rfl (.inl rfl) (HV.mv rfl) ?_
                                refine AL.val rfl (.inl rfl) (HV.mv rfl) ?_
                                refine AL.val rfl (.inl rfl) (HV.len Tryz.underlying28 rfl hr51.isSl) ?_
                                refine AL.val rfl (.inl rfl) (HV.lti rfl rfl) ?_
                                refine AL.nx ?_
                                refine AW.ifd rfl (fun c304 => ?_) (fun c304 => ?_)
                                · -- then
                                  refine AW.skip ?_
                                  refine nrm_and ?_
                                  refine AW.seq ?_
                                  refine AW.block ?_
                                  refine AW.seq ?_
                                  refine AW.draw' [0, 0, 0, 6, 14, 0, 0, 96, 224, 480, 1023, 2047, 4095, 4095, 8191, 32767] mixed (by rfl) ?_
                                  refine Dr.read 0 _ 198 _ rfl rfl rfl rfl rfl (RV.of (by intro _ _ h; cases h) (.inl rfl) (fun _ xd => HV.mv rfl)) ?_
                                  refine Dr.read 1 _ 199 _ rfl rfl rfl rfl rfl (RV.of (by intro _ _ h; cases h) (.inl rfl) (fun _ xd => HV.mv rfl)) ?_
                                  refine Dr.read 2 _ 200 _ rfl rfl rfl rfl rfl (RV.of (by intro _ _ h; cases h) (.inl rfl) (fun _ xd => HV.mv rfl)) ?_
                                  obtain ⟨p305, z306, cs307, hz308, hK309, hC310, hP311⟩ := RdK.ix (q := (i2 : Int)) hr204 sl37 (by omega) (by omega)
                                  obtain ⟨v312, rfl, hr313⟩ := hK309
                                  have hm314 := hr313.max
                                  refine Dr.read 3 _ 201 _ rfl rfl rfl rfl rfl (RV.of (by intro _ _ h; cases h) (.inl rfl) (fun _ xd => hP311 rfl rfl)) ?_
                                  refine Dr.read 4 _ 202 _ rfl rfl rfl rfl rfl (RV.of (by intro _ _ h; cases h) (.inl rfl) (fun _ xd => HV.ld rfl va25 (rdc_ext xd (cells_first (hC310.ext X301) rfl)))) ?_
                                  refine Dr.read 5 _ 203 _ rfl rfl rfl rfl rfl (RV.of (by intro _ _ h; cases h) (.inl rfl) (fun _ xd => HV.mv rfl)) ?_
                                  refine Dr.read 6 _ 204 _ rfl rfl rfl rfl rfl (RV.of (by intro _ _ h; cases h) (.inl rfl) (fun _ xd => HV.mv rfl)) ?_
                                  obtain ⟨p315, z316, cs317, hz318, hK319, hC320, hP321⟩ := RdK.ix (q := (j : Int)) hr51 sl28 (by omega) (by omega)
                                  obtain ⟨cs322, cs323, rfl, hK324, hK325⟩ := hK319
                                  obtain rfl : cs322 = [.int .i64 z316.1] := hK324
                                  obtain rfl : cs323 = [.int .i64 z316.2] := hK325
                                  refine Dr.read 7 _ 205 _ rfl rfl rfl rfl rfl (RV.of (by intro _ _ h; cases h) (.inl rfl) (fun _ xd => hP321 rfl rfl)) ?_
                                  refine Dr.read 8 _ 206 _ rfl rfl rfl rfl rfl (RV.of (by intro _ _ h; cases h) (.inl rfl) (fun _ xd => HV.fa fl36_0 rfl)) ?_
                                  refine Dr.read 9 _ 207 _ rfl rfl rfl rfl rfl (RV.of (by intro _ _ h; cases h) (.inl rfl) (fun _ xd => HV.ld rfl va2 (rdc_ext xd (cells_first (hC320.ext X295) rfl)))) ?_
                                  have hcz := hF.each _ (by rw [← hk201]; exact List.mem_of_getElem? hz308)
                                  have hpx := vS_px hvS (show j < S.length by omega)
                                  rw [px_at (getq hz318 rfl)] at hpx
                                  refine Dr.eff 10 _ _ rfl (by intro d h; cases h; exact ⟨rfl, rfl⟩) rfl rfl rfl (EC.of (by intro _ _ h; cases h) (.inl rfl) (WV.call fn17 rfl (cuAt_ok p (hr313.ext X301) z316.1 ⟨hP.1, hcz.1⟩ (by omega)))) (fun v H' h => .inl (h.2)) ?_
                                  rintro _ H326 ⟨rfl, hx327⟩
                                  have X328 := Ext.trans X291 hx327
                                  have X329 := Ext.trans X292 hx327
                                  have X330 := Ext.trans X293 hx327
                                  have X331 := Ext.trans X294 hx327
                                  have X332 := Ext.trans X295 hx327
                                  have X333 := Ext.trans X296 hx327
                                  have X334 := Ext.trans X297 hx327
                                  have X335 := Ext.trans X298 hx327
                                  have X336 := Ext.trans X299 hx327
                                  have X337 := Ext.trans X300 hx327
                                  have X338 := Ext.trans X301 hx327
                                  have X339 := Ext.trans X302 hx327
                                  have X340 := Ext.trans X303 hx327
                                  refine Dr.read 11 _ 197 _ rfl rfl rfl rfl rfl (RV.of (by intro _ _ h; cases h) (.inl rfl) (fun _ xd => HV.mv rfl)) ?_
                                  refine Dr.read 12 _ 209 _ rfl rfl rfl rfl rfl (RV.of (by intro _ _ h; cases h) (.inl rfl) (fun _ xd => HV.ex rfl rfl)) ?_
                                  refine Dr.read 13 _ 210 _ rfl rfl rfl rfl rfl (RV.of (by intro _ _ h; cases h) (.inl rfl) (fun _ xd => HV.ex rfl rfl)) ?_
                                  refine Dr.read 14 _ 29 _ rfl rfl rfl rfl rfl (RV.of (by intro _ _ h; cases h) (.inl rfl) (fun _ xd => HV.as rfl)) ?_
                                  refine Dr.read 15 _ 30 _ rfl rfl rfl rfl rfl (RV.of (by intro _ _ h; cases h) (.inl rfl) (fun _ xd => HV.as rfl)) ?_
                                  refine Dr.fin rfl ?_
                                  refine nrm_and ?_
                                  refine AW.seq ?_
                                  refine AW.rs ?_
                                  refine AL.val rfl (.inl rfl) (HV.mv rfl) ?_
                                  refine AL.val rfl (.inl rfl) (HV.nei rfl rfl) ?_
                                  refine AL.nx ?_
                                  refine AW.ifd rfl (fun c341 => ?_) (fun c341 => ?_)
                                  · -- then
                                    refine AW.rs ?_
                                    refine AL.val rfl (.inl rfl) (HV.as rfl) ?_
                                    refine AL.nx ?_
                                    refine AW.ret ?_
                                    refine ret_and (ret_blk (ret_and (ret_and (ret_blk (ret_and (ret_blk (ret_and (ret_and (ret_blk (ret_and ?_))))))))))
                                    refine post_one rfl rfl ?_ (.inr rfl)
                                    exfalso; first | omega | exact c341 rfl | (split at hcode <;> omega) | exact c341 (hF.cur hC0) | (simp at c341; done) | exact absurd (hk184.trans hk201.symm) c341 | exact absurd (hk201.trans hk184.symm) c341 | (have q := hnm (hwm.2 (by assumption)); rw [← hkk, ← hBm] at q; have q2 := q.2; omega) | (have q := congrArg List.length hBm; unfold missL at q; rw [show S.length = i by omega] at q; omega) | (have hcz2 := hF.each (k200.getD i2 []) (by rw [← hk201]; exact getD_mem (by omega)); have q3 := hcz2.2.2; unfold missL at q3; rw [show S.length = j by omega] at q3; omega)
                                  · -- else
                                    refine AW.skip ?_
                                    refine nrm_and ?_
                                    refine AW.rs ?_
                                    refine AL.val rfl (.inl rfl) (HV.mv rfl) ?_
                                    refine AL.val rfl (.inl rfl) (HV.mv rfl) ?_
                                    refine AL.val rfl (.inl rfl) (HV.mv rfl) ?_
                                    obtain ⟨p342, z343, cs344, hz345, hK346, hC347, hP348⟩ := RdK.ix (q := (j : Int)) hr51 sl28 (by omega) (by omega)
                                    obtain ⟨cs349, cs350, rfl, hK351, hK352⟩ := hK346
                                    obtain rfl : cs349 = [.int .i64 z343.1] := hK351
                                    obtain rfl : cs350 = [.int .i64 z343.2] := hK352
                                    refine AL.val rfl (.inl rfl) (hP348 rfl rfl) ?_
                                    refine AL.val rfl (.inl rfl) (HV.fa fl36_1 rfl) ?_
                                    refine AL.val rfl (.inl rfl) (HV.ld rfl va2 (cells_at (hC347.ext X332) rfl)) ?_
                                    refine AL.val rfl (.inl rfl) (HV.eqi rfl rfl) ?_
                                    refine AL.nx ?_
                                    refine AW.ifd rfl (fun c353 => ?_) (fun c353 => ?_)
                                    · -- then
                                      refine AW.reg ?_
                                      refine AL.val rfl (.inl rfl) (HV.mv rfl) ?_
                                      refine AL.val rfl (.inl rfl) (HV.add rfl rfl (by omega)) ?_
                                      refine AL.val rfl (.inl rfl) (HV.as rfl) ?_
                                      refine AL.nil ?_
                                      refine nrm_blk (nrm_and ?_)
                                      refine AW.reg ?_
                                      refine AL.val rfl (.inl rfl) (HV.mv rfl) ?_
                                      refine AL.val rfl (.inl rfl) (HV.add rfl rfl (by omega)) ?_
                                      refine AL.val rfl (.inl rfl) (HV.as rfl) ?_
                                      refine AL.nil ?_
                                      refine nrm_and ?_
                                      exact ⟨(j + 1, ht + 1), ⟨X328, X329, X330, X331, X332, X333, X334, X335, X336, X337, X338, X339, X340, by omega, by omega, by have e0 : (k200.getD i2 []) = z306 := gd (d := []) hz308 rfl; have ez : z343 = z316 := same_at hz318 hz345; first | (rw [missN_n (fun h => (missP_at (getq hz345 rfl)).1 h (by rw [e0, congrArg Prod.fst ez]; assumption))]; omega) | (rw [missN_y ((missP_at (getq hz345 rfl)).2 (by rw [e0, congrArg Prod.fst ez]; assumption)), List.length_append, List.length_singleton]; omega), trivial⟩, by first | omega | (dsimp only; omega), ⟨rfl, rfl, rfl, rfl, rfl, rfl, rfl, rfl, rfl, rfl, rfl, rfl, rfl, rfl, rfl, rfl, rfl, rfl, rfl, rfl, rfl, trivial⟩⟩
                                    · -- else
                                      refine AW.skip ?_
                                      refine nrm_blk (nrm_and ?_)
                                      refine AW.reg ?_
                                      refine AL.val rfl (.inl rfl) (HV.mv rfl) ?_
                                      refine AL.val rfl (.inl rfl) (HV.add rfl rfl (by omega)) ?_
                                      refine AL.val rfl (.inl rfl) (HV.as rfl) ?_
                                      refine AL.nil ?_
                                      refine nrm_and ?_
                                      exact ⟨(j + 1, ht), ⟨X328, X329, X330, X331, X332, X333, X334, X335, X336, X337, X338, X339, X340, by omega, by omega, by have e0 : (k200.getD i2 []) = z306 := gd (d := []) hz308 rfl; have ez : z343 = z316 := same_at hz318 hz345; first | (rw [missN_n (fun h => (missP_at (getq hz345 rfl)).1 h (by rw [e0, congrArg Prod.fst ez]; assumption))]; omega) | (rw [missN_y ((missP_at (getq hz345 rfl)).2 (by rw [e0, congrArg Prod.fst ez]; assumption)), List.length_append, List.length_singleton]; omega), trivial⟩, by first | omega | (dsimp only; omega), ⟨rfl, rfl, rfl, rfl, rfl, rfl, rfl, rfl, rfl, rfl, rfl, rfl, rfl, rfl, rfl, rfl, rfl, rfl, rfl, rfl, rfl, trivial⟩⟩
                                · -- else
                                  refine AW.exit ?_
                                  refine ex_and (ex_and (ex_blk ?_))
                                  refine nrm_and ?_
                                  refine AW.rs ?_
                                  refine AL.val rfl (.inl rfl) (HV.mv rfl) ?_
                                  refine AL.val rfl (.inl rfl) (HV.lti rfl rfl) ?_
                                  refine AL.nx ?_
                                  refine AW.ifd rfl (fun c354 => ?_) (fun c354 => ?_)
                                  · -- then
                                    refine AW.rs ?_
                                    refine AL.val rfl (.inl rfl) (HV.as rfl) ?_
                                    refine AL.nx ?_
                                    refine AW.ret ?_
                                    refine ret_blk (ret_and (ret_and (ret_blk (ret_and ?_))))
                                    refine post_one rfl rfl ?_ (.inr rfl)
                                    exfalso; first | omega | exact c354 rfl | (split at hcode <;> omega) | exact c354 (hF.cur hC0) | (simp at c354; done) | exact absurd (hk184.trans hk201.symm) c354 | exact absurd (hk201.trans hk184.symm) c354 | (have q := hnm (hwm.2 (by assumption)); rw [← hkk, ← hBm] at q; have q2 := q.2; omega) | (have q := congrArg List.length hBm; unfold missL at q; rw [show S.length = i by omega] at q; omega) | (have hcz2 := hF.each (k200.getD i2 []) (by rw [← hk201]; exact getD_mem (by omega)); have q3 := hcz2.2.2; unfold missL at q3; rw [show S.length = j by omega] at q3; omega)
                                  · -- else
                                    refine AW.skip ?_
                                    refine nrm_blk (nrm_and ?_)
                                    refine AW.reg ?_
                                    refine AL.val rfl (.inl rfl) (HV.mv rfl) ?_
                                    refine AL.val rfl (.inl rfl) (HV.add rfl rfl (by omega)) ?_
                                    refine AL.val rfl (.inl rfl) (HV.as rfl) ?_
                                    refine AL.nil ?_
                                    refine nrm_and ?_
                                    exact ⟨(i2 + 1, decide (z266 = ca)), ⟨X291, X292, X293, X294, X295, X296, X297, X298, X299, X300, X301, X302, by omega, fun e he hk => by
      rcases Nat.lt_or_ge e i2 with h1 | h1
      · have q := hfd e h1 hk; simp_all
      · obtain rfl : e = i2 := by omega
        exact decide_eq_true ((gd (d := []) hz268 rfl).symm.trans hk), trivial⟩, by first | omega | (dsimp only; omega), ⟨rfl, rfl, rfl, rfl, rfl, rfl, trivial⟩⟩
                              · -- true
                                refine AL.off rfl rfl (by decide) rfl ?_
                                refine AL.off rfl rfl (by decide) rfl ?_
                                refine AL.off rfl rfl (by decide) rfl ?_
                                refine AL.off rfl rfl (by decide) rfl ?_
                                refine AL.off rfl rfl (by decide) rfl ?_
                                refine AL.off rfl rfl (by decide) rfl ?_
                                refine AL.val rfl (.inl rfl) (HV.pickT rfl rfl) ?_
                                have hK := hF.mem
                                rw [← hk201] at hK
                                have hkL := (neL_short p S 2 3).1
                                rw [← hk201] at hkL
                                refine AL.val rfl (.inl rfl) (HV.as rfl) ?_
                                refine AL.nx ?_
                                refine AW.rs ?_
                                refine AL.val rfl (.inl rfl) (HV.as rfl) ?_
                                refine AL.nx ?_
                                refine AW.seq ?_
                                refine AW.rs ?_
                                refine AL.val rfl (.inl rfl) (HV.as rfl) ?_
                                refine AL.nx ?_
                                refine AW.block ?_
                                have X355 := Ext.refl H250
                                refine AW.loop (σ := Nat × Int) (fun ⟨j, ht⟩ => [(5, .int .i64 p), (6, v16), (11, v47), (23, v199), (25, .bool true), (26, .int .i64 (i2 : Int)), (176, .int .i64 (i2 : Int)), (177, v199), (178, .int .i64 (k200.length : Int)), (179, .bool (decide ((i2 : Int) < (k200.length : Int)))), (182, .bool true), (183, .bool true), (190, .bool true), (27, .int .i64 ht), (28, .int .i64 (j : Int))]) (fun ⟨j, ht⟩ H' => Ext H H' ∧ Ext H17 H' ∧ Ext H30 H' ∧ Ext H39 H' ∧ Ext H48 H' ∧ Ext H59 H' ∧ Ext H82 H' ∧ Ext H113 H' ∧ Ext H126 H' ∧ Ext H185 H' ∧ Ext H202 H' ∧ Ext H234 H' ∧ Ext H250 H' ∧ j ≤ S.length ∧ 0 ≤ ht ∧ ht + ((missN p S (k200.getD i2 []) j).length : Int) = (j : Int) ∧ True) (fun ⟨j, ht⟩ => S.length - j) (0, 0) ⟨X251, X252, X253, X254, X255, X256, X257, X258, X259, X260, X261, X262, X355, Nat.zero_le _, Int.le_refl _, rfl, trivial⟩ ⟨rfl, rfl, rfl, rfl, rfl, rfl, rfl, rfl, rfl, rfl, rfl, rfl, rfl, rfl, rfl, trivial⟩ ?_
                                rintro ⟨j, ht⟩ H356 ⟨X357, X358, X359, X360, X361, X362, X363, X364, X365, X366, X367, X368, X369, hj, hht0, hht, _⟩
                                refine AW.seq ?_
                                refine AW.rs ?_
                                refine AL.val rfl (.inl rfl) (HV.mv rfl) ?_
                                refine AL.val rfl (.inl rfl) (HV.mv rfl) ?_
                                refine AL.val rfl (.inl rfl) (HV.len Tryz.underlying28 rfl hr51.isSl) ?_
                                refine AL.val rfl (.inl rfl) (HV.lti rfl rfl) ?_
                                refine AL.nx ?_
                                refine AW.ifd rfl (fun c370 => ?_) (fun c370 => ?_)
                                · -- then
                                  refine AW.skip ?_
                                  refine nrm_and ?_
                                  refine AW.seq ?_
                                  refine AW.block ?_
                                  refine AW.seq ?_
                                  refine AW.draw' [0, 0, 0, 6, 14, 0, 0, 96, 224, 480, 1023, 2047, 4095, 4095, 8191, 32767] mixed (by rfl) ?_
                                  refine Dr.read 0 _ 198 _ rfl rfl rfl rfl rfl (RV.of (by intro _ _ h; cases h) (.inl rfl) (fun _ xd => HV.mv rfl)) ?_
                                  refine Dr.read 1 _ 199 _ rfl rfl rfl rfl rfl (RV.of (by intro _ _ h; cases h) (.inl rfl) (fun _ xd => HV.mv rfl)) ?_
                                  refine Dr.read 2 _ 200 _ rfl rfl rfl rfl rfl (RV.of (by intro _ _ h; cases h) (.inl rfl) (fun _ xd => HV.mv rfl)) ?_
                                  obtain ⟨p371, z372, cs373, hz374, hK375, hC376, hP377⟩ := RdK.ix (q := (i2 : Int)) hr204 sl37 (by omega) (by omega)
                                  obtain ⟨v378, rfl, hr379⟩ := hK375
                                  have hm380 := hr379.max
                                  refine Dr.read 3 _ 201 _ rfl rfl rfl rfl rfl (RV.of (by intro _ _ h; cases h) (.inl rfl) (fun _ xd => hP377 rfl rfl)) ?_
                                  refine Dr.read 4 _ 202 _ rfl rfl rfl rfl rfl (RV.of (by intro _ _ h; cases h) (.inl rfl) (fun _ xd => HV.ld rfl va25 (rdc_ext xd (cells_first (hC376.ext X367) rfl)))) ?_
                                  refine Dr.read 5 _ 203 _ rfl rfl rfl rfl rfl (RV.of (by intro _ _ h; cases h) (.inl rfl) (fun _ xd => HV.mv rfl)) ?_
                                  refine Dr.read 6 _ 204 _ rfl rfl rfl rfl rfl (RV.of (by intro _ _ h; cases h) (.inl rfl) (fun _ xd => HV.mv rfl)) ?_
                                  obtain ⟨p381, z382, cs383, hz384, hK385, hC386, hP387⟩ := RdK.ix (q := (j : Int)) hr51 sl28 (by omega) (by omega)
                                  obtain ⟨cs388, cs389, rfl, hK390, hK391⟩ := hK385
                                  obtain rfl : cs388 = [.int .i64 z382.1] := hK390
                                  obtain rfl : cs389 = [.int .i64 z382.2] := hK391
                                  refine Dr.read 7 _ 205 _ rfl rfl rfl rfl rfl (RV.of (by intro _ _ h; cases h) (.inl rfl) (fun _ xd => hP387 rfl rfl)) ?_
                                  refine Dr.read 8 _ 206 _ rfl rfl rfl rfl rfl (RV.of (by intro _ _ h; cases h) (.inl rfl) (fun _ xd => HV.fa fl36_0 rfl)) ?_
                                  refine Dr.read 9 _ 207 _ rfl rfl rfl rfl rfl (RV.of (by intro _ _ h; cases h) (.inl rfl) (fun _ xd => HV.ld rfl va2 (rdc_ext xd (cells_first (hC386.ext X361) rfl)))) ?_
                                  have hcz := hF.each _ (by rw [← hk201]; exact List.mem_of_getElem? hz374)
                                  have hpx := vS_px hvS (show j < S.length by omega)
                                  rw [px_at (getq hz384 rfl)] at hpx
                                  refine Dr.eff 10 _ _ rfl (by intro d h; cases h; exact ⟨rfl, rfl⟩) rfl rfl rfl (EC.of (by intro _ _ h; cases h) (.inl rfl) (WV.call fn17 rfl (cuAt_ok p (hr379.ext X367) z382.1 ⟨hP.1, hcz.1⟩ (by omega)))) (fun v H' h => .inl (h.2)) ?_
                                  rintro _ H392 ⟨rfl, hx393⟩
                                  have X394 := Ext.trans X357 hx393
                                  have X395 := Ext.trans X358 hx393
                                  have X396 := Ext.trans X359 hx393
                                  have X397 := Ext.trans X360 hx393
                                  have X398 := Ext.trans X361 hx393
                                  have X399 := Ext.trans X362 hx393
                                  have X400 := Ext.trans X363 hx393
                                  have X401 := Ext.trans X364 hx393
                                  have X402 := Ext.trans X365 hx393
                                  have X403 := Ext.trans X366 hx393
                                  have X404 := Ext.trans X367 hx393
                                  have X405 := Ext.trans X368 hx393
                                  have X406 := Ext.trans X369 hx393
                                  refine Dr.read 11 _ 197 _ rfl rfl rfl rfl rfl (RV.of (by intro _ _ h; cases h) (.inl rfl) (fun _ xd => HV.mv rfl)) ?_
                                  refine Dr.read 12 _ 209 _ rfl rfl rfl rfl rfl (RV.of (by intro _ _ h; cases h) (.inl rfl) (fun _ xd => HV.ex rfl rfl)) ?_
                                  refine Dr.read 13 _ 210 _ rfl rfl rfl rfl rfl (RV.of (by intro _ _ h; cases h) (.inl rfl) (fun _ xd => HV.ex rfl rfl)) ?_
                                  refine Dr.read 14 _ 29 _ rfl rfl rfl rfl rfl (RV.of (by intro _ _ h; cases h) (.inl rfl) (fun _ xd => HV.as rfl)) ?_
                                  refine Dr.read 15 _ 30 _ rfl rfl rfl rfl rfl (RV.of (by intro _ _ h; cases h) (.inl rfl) (fun _ xd => HV.as rfl)) ?_
                                  refine Dr.fin rfl ?_
                                  refine nrm_and ?_
                                  refine AW.seq ?_
                                  refine AW.rs ?_
                                  refine AL.val rfl (.inl rfl) (HV.mv rfl) ?_
                                  refine AL.val rfl (.inl rfl) (HV.nei rfl rfl) ?_
                                  refine AL.nx ?_
                                  refine AW.ifd rfl (fun c407 => ?_) (fun c407 => ?_)
                                  · -- then
                                    refine AW.rs ?_
                                    refine AL.val rfl (.inl rfl) (HV.as rfl) ?_
                                    refine AL.nx ?_
                                    refine AW.ret ?_
                                    refine ret_and (ret_blk (ret_and (ret_and (ret_blk (ret_and (ret_blk (ret_and (ret_and (ret_blk (ret_and ?_))))))))))
                                    refine post_one rfl rfl ?_ (.inr rfl)
                                    exfalso; first | omega | exact c407 rfl | (split at hcode <;> omega) | exact c407 (hF.cur hC0) | (simp at c407; done) | exact absurd (hk184.trans hk201.symm) c407 | exact absurd (hk201.trans hk184.symm) c407 | (have q := hnm (hwm.2 (by assumption)); rw [← hkk, ← hBm] at q; have q2 := q.2; omega) | (have q := congrArg List.length hBm; unfold missL at q; rw [show S.length = i by omega] at q; omega) | (have hcz2 := hF.each (k200.getD i2 []) (by rw [← hk201]; exact getD_mem (by omega)); have q3 := hcz2.2.2; unfold missL at q3; rw [show S.length = j by omega] at q3; omega)
                                  · -- else
                                    refine AW.skip ?_
                                    refine nrm_and ?_
                                    refine AW.rs ?_
                                    refine AL.val rfl (.inl rfl) (HV.mv rfl) ?_
                                    refine AL.val rfl (.inl rfl) (HV.mv rfl) ?_
                                    refine AL.val rfl (.inl rfl) (HV.mv rfl) ?_
                                    obtain ⟨p408, z409, cs410, hz411, hK412, hC413, hP414⟩ := RdK.ix (q := (j : Int)) hr51 sl28 (by omega) (by omega)
                                    obtain ⟨cs415, cs416, rfl, hK417, hK418⟩ := hK412
                                    obtain rfl : cs415 = [.int .i64 z409.1] := hK417
                                    obtain rfl : cs416 = [.int .i64 z409.2] := hK418
                                    refine AL.val rfl (.inl rfl) (hP414 rfl rfl) ?_
                                    refine AL.val rfl (.inl rfl) (HV.fa fl36_1 rfl) ?_
                                    refine AL.val rfl (.inl rfl) (HV.ld rfl va2 (cells_at (hC413.ext X398) rfl)) ?_
                                    refine AL.val rfl (.inl rfl) (HV.eqi rfl rfl) ?_
                                    refine AL.nx ?_
                                    refine AW.ifd rfl (fun c419 => ?_) (fun c419 => ?_)
                                    · -- then
                                      refine AW.reg ?_
                                      refine AL.val rfl (.inl rfl) (HV.mv rfl) ?_
                                      refine AL.val rfl (.inl rfl) (HV.add rfl rfl (by omega)) ?_
                                      refine AL.val rfl (.inl rfl) (HV.as rfl) ?_
                                      refine AL.nil ?_
                                      refine nrm_blk (nrm_and ?_)
                                      refine AW.reg ?_
                                      refine AL.val rfl (.inl rfl) (HV.mv rfl) ?_
                                      refine AL.val rfl (.inl rfl) (HV.add rfl rfl (by omega)) ?_
                                      refine AL.val rfl (.inl rfl) (HV.as rfl) ?_
                                      refine AL.nil ?_
                                      refine nrm_and ?_
                                      exact ⟨(j + 1, ht + 1), ⟨X394, X395, X396, X397, X398, X399, X400, X401, X402, X403, X404, X405, X406, by omega, by omega, by have e0 : (k200.getD i2 []) = z372 := gd (d := []) hz374 rfl; have ez : z409 = z382 := same_at hz384 hz411; first | (rw [missN_n (fun h => (missP_at (getq hz411 rfl)).1 h (by rw [e0, congrArg Prod.fst ez]; assumption))]; omega) | (rw [missN_y ((missP_at (getq hz411 rfl)).2 (by rw [e0, congrArg Prod.fst ez]; assumption)), List.length_append, List.length_singleton]; omega), trivial⟩, by first | omega | (dsimp only; omega), ⟨rfl, rfl, rfl, rfl, rfl, rfl, rfl, rfl, rfl, rfl, rfl, rfl, rfl, rfl, rfl, trivial⟩⟩
                                    · -- else
                                      refine AW.skip ?_
                                      refine nrm_blk (nrm_and ?_)
                                      refine AW.reg ?_
                                      refine AL.val rfl (.inl rfl) (HV.mv rfl) ?_
                                      refine AL.val rfl (.inl rfl) (HV.add rfl rfl (by omega)) ?_
                                      refine AL.val rfl (.inl rfl) (HV.as rfl) ?_
                                      refine AL.nil ?_
                                      refine nrm_and ?_
                                      exact ⟨(j + 1, ht), ⟨X394, X395, X396, X397, X398, X399, X400, X401, X402, X403, X404, X405, X406, by omega, by omega, by have e0 : (k200.getD i2 []) = z372 := gd (d := []) hz374 rfl; have ez : z409 = z382 := same_at hz384 hz411; first | (rw [missN_n (fun h => (missP_at (getq hz411 rfl)).1 h (by rw [e0, congrArg Prod.fst ez]; assumption))]; omega) | (rw [missN_y ((missP_at (getq hz411 rfl)).2 (by rw [e0, congrArg Prod.fst ez]; assumption)), List.length_append, List.length_singleton]; omega), trivial⟩, by first | omega | (dsimp only; omega), ⟨rfl, rfl, rfl, rfl, rfl, rfl, rfl, rfl, rfl, rfl, rfl, rfl, rfl, rfl, rfl, trivial⟩⟩
                                · -- else
                                  refine AW.exit ?_
                                  refine ex_and (ex_and (ex_blk ?_))
                                  refine nrm_and ?_
                                  refine AW.rs ?_
                                  refine AL.val rfl (.inl rfl) (HV.mv rfl) ?_
                                  refine AL.val rfl (.inl rfl) (HV.lti rfl rfl) ?_
                                  refine AL.nx ?_
                                  refine AW.ifd rfl (fun c420 => ?_) (fun c420 => ?_)
                                  · -- then
                                    refine AW.rs ?_
                                    refine AL.val rfl (.inl rfl) (HV.as rfl) ?_
                                    refine AL.nx ?_
                                    refine AW.ret ?_
                                    refine ret_blk (ret_and (ret_and (ret_blk (ret_and ?_))))
                                    refine post_one rfl rfl ?_ (.inr rfl)
                                    exfalso; first | omega | exact c420 rfl | (split at hcode <;> omega) | exact c420 (hF.cur hC0) | (simp at c420; done) | exact absurd (hk184.trans hk201.symm) c420 | exact absurd (hk201.trans hk184.symm) c420 | (have q := hnm (hwm.2 (by assumption)); rw [← hkk, ← hBm] at q; have q2 := q.2; omega) | (have q := congrArg List.length hBm; unfold missL at q; rw [show S.length = i by omega] at q; omega) | (have hcz2 := hF.each (k200.getD i2 []) (by rw [← hk201]; exact getD_mem (by omega)); have q3 := hcz2.2.2; unfold missL at q3; rw [show S.length = j by omega] at q3; omega)
                                  · -- else
                                    refine AW.skip ?_
                                    refine nrm_blk (nrm_and ?_)
                                    refine AW.reg ?_
                                    refine AL.val rfl (.inl rfl) (HV.mv rfl) ?_
                                    refine AL.val rfl (.inl rfl) (HV.add rfl rfl (by omega)) ?_
                                    refine AL.val rfl (.inl rfl) (HV.as rfl) ?_
                                    refine AL.nil ?_
                                    refine nrm_and ?_
                                    exact ⟨(i2 + 1, true), ⟨X357, X358, X359, X360, X361, X362, X363, X364, X365, X366, X367, X368, by omega, fun e he hk => rfl, trivial⟩, by first | omega | (dsimp only; omega), ⟨rfl, rfl, rfl, rfl, rfl, rfl, trivial⟩⟩
                            · -- else
                              refine AW.exit ?_
                              refine ex_and (ex_and (ex_blk ?_))
                              refine nrm_and ?_
                              refine AW.rs ?_
                              refine AL.val rfl (.inl rfl) (HV.mv rfl) ?_
                              refine AL.val rfl (.inl rfl) (HV.as rfl) ?_
                              refine AL.nx ?_
                              refine AW.ret ?_
                              refine post_one rfl rfl ?_ (.inr rfl)
                              exact ⟨congrArg Value.bool (by obtain ⟨e, he, hk⟩ := List.getElem_of_mem hK; exact hfd e (by omega) (by simp [he, hk])), X251⟩
                        · -- true
                          have c247_ : (!decide ((fsA p S 2 mo) = ca)) = true := by rw [decide_eq_false c247]; rfl
                          rw [c247_]
                          refine AL.off rfl rfl (by decide) rfl ?_
                          refine AL.off rfl rfl (by decide) rfl ?_
                          refine AL.off rfl rfl (by decide) rfl ?_
                          refine AL.off rfl rfl (by decide) rfl ?_
                          refine AL.val rfl (.inl rfl) (HV.pickT rfl rfl) ?_
                          refine AL.nx ?_
                          refine AW.cond rfl (fun _ => ?_) (fun h => by cases h)
                          refine AW.rs ?_
                          refine AL.val rfl (.inl rfl) (HV.as rfl) ?_
                          refine AL.nx ?_
                          refine AW.ret ?_
                          refine ret_and ?_
                          refine post_one rfl rfl ?_ (.inr rfl)
                          exfalso; first | omega | exact c247 rfl | (split at hcode <;> omega) | exact c247 (hF.cur hC0) | (simp at c247; done) | exact absurd (hk184.trans hk201.symm) c247 | exact absurd (hk201.trans hk184.symm) c247 | (have q := hnm (hwm.2 (by assumption)); rw [← hkk, ← hBm] at q; have q2 := q.2; omega) | (have q := congrArg List.length hBm; unfold missL at q; rw [show S.length = i by omega] at q; omega) | (have hcz2 := hF.each (k200.getD i2 []) (by rw [← hk201]; exact getD_mem (by omega)); have q3 := hcz2.2.2; unfold missL at q3; rw [show S.length = j by omega] at q3; omega)
                      · -- true
                        have c233_ : (!decide (k183 = k200)) = true := by rw [decide_eq_false c233]; rfl
                        rw [c233_]
                        refine AL.off rfl rfl (by decide) rfl ?_
                        refine AL.off rfl rfl (by decide) rfl ?_
                        refine AL.off rfl rfl (by decide) rfl ?_
                        refine AL.off rfl rfl (by decide) rfl ?_
                        refine AL.val rfl (.inl rfl) (HV.pickT rfl rfl) ?_
                        refine AL.val rfl (.inl rfl) (HV.mv rfl) ?_
                        refine AL.off rfl rfl (by decide) rfl ?_
                        refine AL.off rfl rfl (by decide) rfl ?_
                        refine AL.off rfl rfl (by decide) rfl ?_
                        refine AL.off rfl rfl (by decide) rfl ?_
                        refine AL.val rfl (.inl rfl) (HV.pickT rfl rfl) ?_
                        refine AL.nx ?_
                        refine AW.cond rfl (fun _ => ?_) (fun h => by cases h)
                        refine AW.rs ?_
                        refine AL.val rfl (.inl rfl) (HV.as rfl) ?_
                        refine AL.nx ?_
                        refine AW.ret ?_
                        refine ret_and ?_
                        refine post_one rfl rfl ?_ (.inr rfl)
                        exfalso; first | omega | exact c233 rfl | (split at hcode <;> omega) | exact c233 (hF.cur hC0) | (simp at c233; done) | exact absurd (hk184.trans hk201.symm) c233 | exact absurd (hk201.trans hk184.symm) c233 | (have q := hnm (hwm.2 (by assumption)); rw [← hkk, ← hBm] at q; have q2 := q.2; omega) | (have q := congrArg List.length hBm; unfold missL at q; rw [show S.length = i by omega] at q; omega) | (have hcz2 := hF.each (k200.getD i2 []) (by rw [← hk201]; exact getD_mem (by omega)); have q3 := hcz2.2.2; unfold missL at q3; rw [show S.length = j by omega] at q3; omega)
          · -- true
            have c112_ : (!decide ((fsA p S 2 mo) = (fsA p S 2 mo))) = true := by rw [decide_eq_false c112]; rfl
            rw [c112_]
            refine AL.off rfl rfl (by decide) rfl ?_
            refine AL.off rfl rfl (by decide) rfl ?_
            refine AL.off rfl rfl (by decide) rfl ?_
            refine AL.off rfl rfl (by decide) rfl ?_
            refine AL.val rfl (.inl rfl) (HV.pickT rfl rfl) ?_
            refine AL.nx ?_
            refine AW.cond rfl (fun _ => ?_) (fun h => by cases h)
            refine AW.rs ?_
            refine AL.val rfl (.inl rfl) (HV.as rfl) ?_
            refine AL.nx ?_
            refine AW.ret ?_
            refine ret_and ?_
            refine post_one rfl rfl ?_ (.inr rfl)
            exfalso; first | omega | exact c112 rfl | (split at hcode <;> omega) | exact c112 (hF.cur hC0) | (simp at c112; done) | exact absurd (hk184.trans hk201.symm) c112 | exact absurd (hk201.trans hk184.symm) c112 | (have q := hnm (hwm.2 (by assumption)); rw [← hkk, ← hBm] at q; have q2 := q.2; omega) | (have q := congrArg List.length hBm; unfold missL at q; rw [show S.length = i by omega] at q; omega) | (have hcz2 := hF.each (k200.getD i2 []) (by rw [← hk201]; exact getD_mem (by omega)); have q3 := hcz2.2.2; unfold missL at q3; rw [show S.length = j by omega] at q3; omega)
end Go.Proofs.YtbjcgcililpfdaaGreat.VC

