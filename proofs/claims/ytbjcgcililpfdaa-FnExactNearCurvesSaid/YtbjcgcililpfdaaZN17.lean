/- Walks. -/
import Derived.Test.YtbjcgcililpfdaaZN16
set_option linter.unusedVariables false
set_option linter.unusedSimpArgs false
namespace Go.Proofs.Ytbjcgcililpfdaa.VC
open Go Go.RowKit
variable {W : World} {H : Hp}

theorem near_short {p : Int} {l : List (Int × Int)} {dg ag : Int} (hv : vS p l) (hd : 0 ≤ dg) : ∀ x ∈ nearK p l dg ag, x.length ≤ 10 := fun x hx => by
  obtain ⟨U, h1, h2, rfl, h4⟩ := ((wk_near (p := p) (l := l) (ag := ag) (m := (dg + 1).toNat) (by omega)).2 x).1 hx
  have q1 := thrC_len p U
  have q2 := h1.length_le
  have q3 := vS_len hv
  omega
theorem neL_short (p : Int) (l : List (Int × Int)) (dg ag : Int) : (neL p l dg ag).length ≤ 300 ∧ ∀ x ∈ neL p l dg ag, x.length ≤ 10 := by
  by_cases h : neC p l dg ag = 0
  · rw [neL_0 h]
    unfold neC at h
    split at h
    · rename_i hv
      split at h
      · rename_i hd
        split at h
        · rename_i h3
          exact ⟨h3, near_short hv hd.1.1⟩
        · omega
      · omega
    · omega
  · rw [neL_n h]
    exact ⟨by simp, fun x hx => by cases hx⟩
set_option maxRecDepth 100000 in
theorem implNC_ok {v : Value} {l : List (Int × Int)} {ok : Nat → Prop} (hr : RdK (kP kI kI) W H ok v l) (p dg ag : Int) (hl : l.length ≤ 1048576) : ACalls Try.prog W 44 #[.int .i64 p, v, .int .i64 dg, .int .i64 ag] H (fun r H' => (∃ v k, r = .tuple #[v, .int .i64 (neC p l dg ag)] ∧ k = neL p l dg ag ∧ OwnD (kO 2 kI) 25 W H' (fun b => H.bd ≤ b) v k) ∧ Ext H H') := by
  refine ACalls.of (args := [.int .i64 p, v, .int .i64 dg, .int .i64 ag]) Try.func44 rfl rfl ?_
  have X0 := Ext.refl H
  have hm1 := hr.max
  refine AW.rs ?_
  refine AL.val rfl (.inl rfl) (HV.as rfl) ?_
  refine AL.val rfl (.inl rfl) (HV.as rfl) ?_
  refine AL.nx ?_
  refine AW.seq ?_
  refine AW.block ?_
  refine AW.rs ?_
  refine AL.val rfl (.inl rfl) (HV.mv rfl) ?_
  refine AL.val rfl (.inl rfl) (HV.mv rfl) ?_
  refine AL.w rfl (.inl rfl) (WV.call fn80 rfl (implVS_ok hr p (by omega))) ?_
  rintro _ H2 ⟨rfl, hx3⟩
  have X4 := Ext.trans X0 hx3
  refine AL.val rfl (.inl rfl) (HV.not rfl) ?_
  refine AL.val rfl (.inl rfl) (HV.as rfl) ?_
  refine AL.nx ?_
  refine AW.ifn rfl (fun c5 => ?_) (fun c5 => ?_)
  · -- then
    refine AW.rs ?_
    refine AL.val rfl (.inl rfl) (HV.as rfl) ?_
    refine AL.val rfl (.inl rfl) (HV.as rfl) ?_
    refine AL.nx ?_
    refine AW.ret ?_
    refine ret_blk (ret_and ?_)
    refine post_two rfl rfl rfl ?_ (.inr rfl)
    have hC : neC p l dg ag = 1 := ne_1 c5; rw [hC]; exact ⟨⟨_, _, rfl, (neL_n (by omega)).symm, OwnD.nil _⟩, X4⟩
  · -- else
    refine AW.rs ?_
    refine AL.val rfl (.inl rfl) (HV.mv rfl) ?_
    refine AL.w rfl (.inl rfl) (WV.call fn81 rfl (within_ok (W := W) dg 0 6)) ?_
    rintro _ H6 ⟨rfl, hx7⟩
    have X8 := Ext.trans X4 hx7
    refine AL.val rfl (.inl rfl) (HV.not rfl) ?_
    refine AL.val rfl (.inl rfl) (HV.mv rfl) ?_
    by_cases c9 : 0 ≤ dg ∧ dg ≤ 6
    · -- false
      have c9_ : (!decide (0 ≤ dg ∧ dg ≤ 6)) = false := by rw [decide_eq_true c9]; rfl
      rw [c9_]
      refine AL.val rfl (.inr ⟨_, _, _, rfl, rfl, rfl⟩) (HV.mv rfl) ?_
      refine AL.val rfl (.inr ⟨_, _, _, rfl, rfl, rfl⟩) (HV.mv rfl) ?_
      refine AL.val rfl (.inr ⟨_, _, _, rfl, rfl, rfl⟩) (HV.add rfl rfl (by omega)) ?_
      refine AL.w rfl (.inr ⟨_, _, _, rfl, rfl, rfl⟩) (WV.call fn81 rfl (within_ok (W := W) ag (dg + 1) 10)) ?_
      rintro _ H10 ⟨rfl, hx11⟩
      have X12 := Ext.trans X8 hx11
      refine AL.val rfl (.inr ⟨_, _, _, rfl, rfl, rfl⟩) (HV.not rfl) ?_
      refine AL.val rfl (.inl rfl) (HV.pickF rfl rfl) ?_
      refine AL.val rfl (.inl rfl) (HV.as rfl) ?_
      refine AL.nx ?_
      refine AW.ifn rfl (fun c13 => ?_) (fun c13 => ?_)
      · -- then
        refine AW.rs ?_
        refine AL.val rfl (.inl rfl) (HV.as rfl) ?_
        refine AL.val rfl (.inl rfl) (HV.as rfl) ?_
        refine AL.nx ?_
        refine AW.ret ?_
        refine ret_blk (ret_and ?_)
        refine post_two rfl rfl rfl ?_ (.inr rfl)
        have hC : neC p l dg ag = 2 := ne_2 (by assumption) (fun q => by have q1 := q.1; have q2 := q.2; first | omega | contradiction); rw [hC]; exact ⟨⟨_, _, rfl, (neL_n (by omega)).symm, OwnD.nil _⟩, X12⟩
      · -- else
        refine AW.skip ?_
        refine nrm_blk (nrm_and ?_)
        refine AW.rs ?_
        refine AL.val rfl (.inl rfl) (HV.mv rfl) ?_
        refine AL.val rfl (.inl rfl) (HV.mv rfl) ?_
        refine AL.val rfl (.inl rfl) (HV.mv rfl) ?_
        refine AL.val rfl (.inl rfl) (HV.mv rfl) ?_
        have hv : vS p l := by assumption
        have hd : (0 ≤ dg ∧ dg ≤ 6) ∧ dg + 1 ≤ ag ∧ ag ≤ 10 := ⟨by omega, by omega⟩
        have hkl := nearK_len p l dg ag (vS_len hv)
        have X14 := Ext.refl H10
        have o15 := X12.bd
        have o16 := X14.bd
        refine AL.w rfl (.inl rfl) (WV.call fn82 rfl (nearI_ok (dg := dg) (ag := ag) (hr.ext X12) hv hd.1)) ?_
        rintro v17 H18 ⟨hx19, ho20⟩
        have X21 := Ext.trans X12 hx19
        have X22 := Ext.trans X14 hx19
        have X23 := Ext.refl H18
        refine AL.val rfl (.inl rfl) (HV.as rfl) ?_
        refine AL.nx ?_
        refine AW.seq ?_
        refine AW.rs ?_
        refine AL.val rfl (.inl rfl) (HV.mv rfl) ?_
        refine AL.val rfl (.inl rfl) (HV.len Try.underlying37 rfl (rd_ofO ho20.rd).isSl) ?_
        refine AL.val rfl (.inl rfl) (HV.gti rfl rfl) ?_
        refine AL.nx ?_
        refine AW.ifd rfl (fun c25 => ?_) (fun c25 => ?_)
        · -- then
          refine AW.rs ?_
          refine AL.val rfl (.inl rfl) (HV.as rfl) ?_
          refine AL.val rfl (.inl rfl) (HV.as rfl) ?_
          refine AL.nx ?_
          refine AW.ret ?_
          refine ret_and ?_
          refine post_two rfl rfl rfl ?_ (.inr rfl)
          have hC : neC p l dg ag = 3 := ne_3 hv hd (by omega); rw [hC]; exact ⟨⟨_, _, rfl, (neL_n (by omega)).symm, OwnD.nil _⟩, X21⟩
        · -- else
          refine AW.skip ?_
          refine nrm_and ?_
          refine AW.rs ?_
          refine AL.val rfl (.inl rfl) (HV.mv rfl) ?_
          refine AL.val rfl (.inl rfl) (HV.as rfl) ?_
          refine AL.val rfl (.inl rfl) (HV.as rfl) ?_
          refine AL.nx ?_
          refine AW.ret ?_
          refine post_two rfl rfl rfl ?_ (.inr rfl)
          have hC : neC p l dg ag = 0 := ne_0 hv hd (by omega); rw [hC]; exact ⟨⟨_, _, rfl, (neL_0 hC).symm, ho20.okk (fun b hb _ => Nat.le_trans o15 hb)⟩, X21⟩
    · -- true
      have c9_ : (!decide (0 ≤ dg ∧ dg ≤ 6)) = true := by rw [decide_eq_false c9]; rfl
      rw [c9_]
      refine AL.off rfl rfl (by decide) rfl ?_
      refine AL.off rfl rfl (by decide) rfl ?_
      refine AL.off rfl rfl (by decide) rfl ?_
      refine AL.off rfl rfl (by decide) rfl ?_
      refine AL.off rfl rfl (by decide) rfl ?_
      refine AL.val rfl (.inl rfl) (HV.pickT rfl rfl) ?_
      refine AL.val rfl (.inl rfl) (HV.as rfl) ?_
      refine AL.nx ?_
      refine AW.cond rfl (fun _ => ?_) (fun h => by cases h)
      refine AW.rs ?_
      refine AL.val rfl (.inl rfl) (HV.as rfl) ?_
      refine AL.val rfl (.inl rfl) (HV.as rfl) ?_
      refine AL.nx ?_
      refine AW.ret ?_
      refine ret_blk (ret_and ?_)
      refine post_two rfl rfl rfl ?_ (.inr rfl)
      have hC : neC p l dg ag = 2 := ne_2 (by assumption) (fun q => by have q1 := q.1; have q2 := q.2; first | omega | contradiction); rw [hC]; exact ⟨⟨_, _, rfl, (neL_n (by omega)).symm, OwnD.nil _⟩, X8⟩

theorem specNC2_ok {v : Value} {l : List (Int × Int)} {ok : Nat → Prop} (hr : RdK (kP kI kI) W H ok v l) (p dg ag : Int) (hl : l.length ≤ 1048576) : ACalls Try.prog W 43 #[.int .i64 p, v, .int .i64 dg, .int .i64 ag] H (fun r H' => (∃ v k, r = .tuple #[v, .int .i64 (neC p l dg ag)] ∧ k = neL p l dg ag ∧ RdK (kR kI) W H' (fun _ => True) v k) ∧ Ext H H') :=
  (specNC_ok hr p dg ag hl).mono fun r H' h => by
    obtain ⟨⟨v, rfl, h2⟩, hx⟩ := h
    exact ⟨⟨v, _, rfl, rfl, h2⟩, hx⟩

set_option maxRecDepth 100000 in
theorem law_NearCurves {v : Value} {l : List (Int × Int)} {ok : Nat → Prop} (hr : RdK (kP kI kI) W H ok v l) (p dg ag : Int) (hW : W.heap.size ≤ H.bd) : ACalls Try.prog W 11 #[.int .i64 p, v, .int .i64 dg, .int .i64 ag] H (fun r H' => r = .bool true ∧ Ext H H') := by
  refine ACalls.of (args := [.int .i64 p, v, .int .i64 dg, .int .i64 ag]) Try.func11 rfl rfl ?_
  have X0 := Ext.refl H
  have hm1 := hr.max
  refine AW.rs ?_
  refine AL.val rfl (.inl rfl) (HV.as rfl) ?_
  refine AL.nx ?_
  refine AW.rs ?_
  refine AL.val rfl (.inl rfl) (HV.as rfl) ?_
  refine AL.nx ?_
  refine AW.rs ?_
  refine AL.val rfl (.inl rfl) (HV.mv rfl) ?_
  refine AL.val rfl (.inl rfl) (HV.mv rfl) ?_
  refine AL.w rfl (.inl rfl) (WV.call fn37 rfl (szSh_ok hr 1048576 (by omega))) ?_
  rintro _ H2 ⟨⟨q4, rfl, ha5, hb6, he7⟩, hx3⟩
  have X8 := Ext.trans X0 hx3
  refine AL.val rfl (.inl rfl) (HV.as rfl) ?_
  refine AL.nx ?_
  refine AW.seq ?_
  refine AW.rs ?_
  refine AL.val rfl (.inl rfl) (HV.mv rfl) ?_
  refine AL.val rfl (.inl rfl) (HV.lti rfl rfl) ?_
  refine AL.nx ?_
  refine AW.ifd rfl (fun c9 => ?_) (fun c9 => ?_)
  · -- then
    refine AW.rs ?_
    refine AL.val rfl (.inl rfl) (HV.as rfl) ?_
    refine AL.nx ?_
    refine AW.ret ?_
    refine ret_and ?_
    refine post_one rfl rfl ?_ (.inr rfl)
    exact ⟨rfl, X8⟩
  · -- else
    refine AW.skip ?_
    refine nrm_and ?_
    refine AW.rs ?_
    refine AL.val rfl (.inl rfl) (HV.mv rfl) ?_
    refine AL.val rfl (.inl rfl) (HV.mv rfl) ?_
    refine AL.w rfl (.inl rfl) (WV.call fn39 rfl (toShS_ok (hr.ext X8) (he7 (by omega)))) ?_
    rintro v10 H11 ⟨hx12, ho13⟩
    have X15 := Ext.trans X8 hx12
    have X16 := Ext.refl H11
    have hr14 : RdK (kP kI kI) W H11 _ v10 l := ho13.rd
    refine AL.val rfl (.inl rfl) (HV.mv rfl) ?_
    refine AL.val rfl (.inl rfl) (HV.mv rfl) ?_
    refine AL.w rfl (.inl rfl) (WV.call fn43 rfl (specNC2_ok hr14 p dg ag (he7 (by omega)))) ?_
    rintro _ H20 ⟨⟨v17, k18, rfl, hk19, hr22⟩, hx21⟩
    have X23 := Ext.trans X15 hx21
    have X24 := Ext.trans X16 hx21
    have X25 := Ext.refl H20
    refine AL.val rfl (.inl rfl) (HV.mv rfl) ?_
    refine AL.val rfl (.inl rfl) (HV.ex rfl rfl) ?_
    refine AL.val rfl (.inl rfl) (HV.ex rfl rfl) ?_
    refine AL.val rfl (.inl rfl) (HV.as rfl) ?_
    refine AL.val rfl (.inl rfl) (HV.as rfl) ?_
    refine AL.nx ?_
    refine AW.rs ?_
    refine AL.val rfl (.inl rfl) (HV.mv rfl) ?_
    have o26 := X23.bd
    have o27 := X24.bd
    have o28 := X25.bd
    refine AL.w rfl (.inl rfl) (WV.call fn39 rfl (toShS_ok (hr.ext X23) (he7 (by omega)))) ?_
    rintro v29 H30 ⟨hx31, ho32⟩
    have X34 := Ext.trans X23 hx31
    have X35 := Ext.trans X24 hx31
    have X36 := Ext.trans X25 hx31
    have X37 := Ext.refl H30
    have ho33 := ho32.okk (ok' := fun b => H20.bd ≤ b ∧ b < H30.bd) (fun b hb hlt => ⟨hb, hlt⟩)
    refine AL.val rfl (.inl rfl) (HV.as rfl) ?_
    refine AL.nx ?_
    refine AW.rs ?_
    refine AL.val rfl (.inl rfl) (HV.mv rfl) ?_
    refine AL.val rfl (.inl rfl) (HV.mv rfl) ?_
    refine AL.val rfl (.inl rfl) (HV.mv rfl) ?_
    refine AL.val rfl (.inl rfl) (HV.mv rfl) ?_
    have o39 := X34.bd
    have o40 := X35.bd
    have o41 := X36.bd
    have o42 := X37.bd
    have a43 := ho33.ltb
    refine AL.w rfl (.inl rfl) (WV.call fn44 rfl (implNC_ok ho33.rd p dg ag (he7 (by omega)))) ?_
    rintro _ H47 ⟨⟨v44, k45, rfl, hk46, ho49⟩, hx48⟩
    have X51 := Ext.trans X34 hx48
    have X52 := Ext.trans X35 hx48
    have X53 := Ext.trans X36 hx48
    have X54 := Ext.trans X37 hx48
    have ho55 := ho33.ext hx48
    have X56 := Ext.refl H47
    have hsh_ : k45.length ≤ 1048576 ∧ ∀ x ∈ k45, x.length ≤ 1048576 := by rw [hk46]; have q := neL_short p l dg ag; exact ⟨by omega, fun x hx => by have := q.2 x hx; omega⟩
    have hof_ := offs_le (B := 1048576) hsh_.2 k45.length (Nat.le_refl _)
    have hkl_ : k45.length ≤ 300 := by rw [hk46]; exact (neL_short p l dg ag).1
    have hof2_ := offs_le (B := 10) (l := k45) (by rw [hk46]; exact (neL_short p l dg ag).2) k45.length (Nat.le_refl _)
    have hr50 := ho49.okk (ok' := fun b => H30.bd ≤ b ∧ b < H47.bd) (fun b hb hlt => ⟨hb, hlt⟩)
    refine AL.val rfl (.inl rfl) (HV.mv rfl) ?_
    refine AL.val rfl (.inl rfl) (HV.ex rfl rfl) ?_
    refine AL.val rfl (.inl rfl) (HV.ex rfl rfl) ?_
    refine AL.val rfl (.inl rfl) (HV.as rfl) ?_
    refine AL.val rfl (.inl rfl) (HV.as rfl) ?_
    refine AL.nx ?_
    refine AW.seq ?_
    refine AW.rs ?_
    refine AL.val rfl (.inl rfl) (HV.mv rfl) ?_
    refine AL.val rfl (.inl rfl) (HV.mv rfl) ?_
    refine AL.w rfl (.inl rfl) (WV.call fn45 rfl (eqSS_ok (rd_ofO hr50.rd) (hr22.ext X53))) ?_
    rintro _ H58 ⟨rfl, hx59⟩
    have X60 := Ext.trans X51 hx59
    have X61 := Ext.trans X52 hx59
    have X62 := Ext.trans X53 hx59
    have X63 := Ext.trans X54 hx59
    have X64 := Ext.trans X56 hx59
    have ho65 := ho55.ext hx59
    have ho66 := hr50.ext hx59
    refine AL.val rfl (.inl rfl) (HV.not rfl) ?_
    refine AL.val rfl (.inl rfl) (HV.mv rfl) ?_
    by_cases c67 : k45 = k18
    · -- false
      have c67_ : (!decide (k45 = k18)) = false := by rw [decide_eq_true c67]; rfl
      rw [c67_]
      refine AL.val rfl (.inr ⟨_, _, _, rfl, rfl, rfl⟩) (HV.mv rfl) ?_
      refine AL.val rfl (.inr ⟨_, _, _, rfl, rfl, rfl⟩) (HV.mv rfl) ?_
      refine AL.val rfl (.inr ⟨_, _, _, rfl, rfl, rfl⟩) (HV.nei rfl rfl) ?_
      refine AL.val rfl (.inl rfl) (HV.pickF rfl rfl) ?_
      refine AL.nx ?_
      refine AW.ifd rfl (fun c68 => ?_) (fun c68 => ?_)
      · -- then
        refine AW.rs ?_
        refine AL.val rfl (.inl rfl) (HV.as rfl) ?_
        refine AL.nx ?_
        refine AW.ret ?_
        refine ret_and ?_
        refine post_one rfl rfl ?_ (.inr rfl)
        exfalso; first | omega | exact absurd (hk46.trans hk19.symm) c68 | (simp at c68; done) | exact absurd c68 (by simp)
      · -- else
        refine AW.skip ?_
        refine nrm_and ?_
        refine AW.seq ?_
        refine AW.rs ?_
        refine AL.val rfl (.inl rfl) (HV.mv rfl) ?_
        refine AL.val rfl (.inl rfl) (HV.mv rfl) ?_
        refine AL.w rfl (.inl rfl) (WV.call fn39 rfl (toShS_ok (hr.ext X60) (he7 (by omega)))) ?_
        rintro v69 H70 ⟨hx71, ho72⟩
        have X74 := Ext.trans X60 hx71
        have X75 := Ext.trans X61 hx71
        have X76 := Ext.trans X62 hx71
        have X77 := Ext.trans X63 hx71
        have X78 := Ext.trans X64 hx71
        have ho79 := ho65.ext hx71
        have ho80 := ho66.ext hx71
        have X81 := Ext.refl H70
        have hr73 : RdK (kP kI kI) W H70 _ v69 l := ho72.rd
        refine AL.w rfl (.inl rfl) (WV.call fn41 rfl (eqShS_ok ho79.rd hr73)) ?_
        rintro _ H82 ⟨rfl, hx83⟩
        have X84 := Ext.trans X74 hx83
        have X85 := Ext.trans X75 hx83
        have X86 := Ext.trans X76 hx83
        have X87 := Ext.trans X77 hx83
        have X88 := Ext.trans X78 hx83
        have X89 := Ext.trans X81 hx83
        have ho90 := ho79.ext hx83
        have ho91 := ho80.ext hx83
        refine AL.val rfl (.inl rfl) (HV.not rfl) ?_
        refine AL.nx ?_
        refine AW.ifn rfl (fun c92 => ?_) (fun c92 => ?_)
        · -- then
          refine AW.rs ?_
          refine AL.val rfl (.inl rfl) (HV.as rfl) ?_
          refine AL.nx ?_
          refine AW.ret ?_
          refine ret_and ?_
          refine post_one rfl rfl ?_ (.inr rfl)
          exfalso; first | omega | exact absurd (hk46.trans hk19.symm) c92 | (simp at c92; done) | exact absurd c92 (by simp)
        · -- else
          refine AW.skip ?_
          refine nrm_and ?_
          refine AW.rs ?_
          refine AL.val rfl (.inl rfl) (HV.as rfl) ?_
          refine AL.nx ?_
          refine AW.rs ?_
          refine AL.val rfl (.inl rfl) (HV.mv rfl) ?_
          refine AL.val rfl (.inl rfl) (HV.mv rfl) ?_
          refine AL.w rfl (.inl rfl) (WV.call fn42 rfl (markSh_ok 1 ho90 (by omega))) ?_
          rintro _ H93 ⟨k94, rfl, hk95, hh96, hx97, ho98⟩
          have X99 := Ext.thru X84 hx97 (fun b hb => Nat.le_trans o26 (ho90.blk b hb).1.1)
          have X100 := Ext.thru X85 hx97 (fun b hb => Nat.le_trans o27 (ho90.blk b hb).1.1)
          have X101 := Ext.thru X86 hx97 (fun b hb => Nat.le_trans o28 (ho90.blk b hb).1.1)
          have ho105 := ho91.but hx97 (fun b hb _ e => by have h1 : H30.bd ≤ b ∧ b < H47.bd := hb; have h2 : H20.bd ≤ b ∧ b < H30.bd := (ho90.blk b e).1; omega) (fun b hb => (ho90.blk b hb).2.2)
          refine AL.val rfl (.inl rfl) (HV.as rfl) ?_
          refine AL.nx ?_
          refine AW.seq ?_
          refine AW.rs ?_
          refine AL.val rfl (.inl rfl) (HV.mv rfl) ?_
          refine AL.val rfl (.inl rfl) (HV.lti rfl rfl) ?_
          refine AL.val rfl (.inl rfl) (HV.mv rfl) ?_
          by_cases c106 : (1 + 2 * (l.length : Int)) < 0
          · -- true
            have c106_ : decide ((1 + 2 * (l.length : Int)) < 0) = true := decide_eq_true c106
            rw [c106_]
            refine AL.off rfl rfl (by decide) rfl ?_
            refine AL.off rfl rfl (by decide) rfl ?_
            refine AL.off rfl rfl (by decide) rfl ?_
            refine AL.off rfl rfl (by decide) rfl ?_
            refine AL.val rfl (.inl rfl) (HV.pickT rfl rfl) ?_
            refine AL.val rfl (.inl rfl) (HV.mv rfl) ?_
            refine AL.off rfl rfl (by decide) rfl ?_
            refine AL.off rfl rfl (by decide) rfl ?_
            refine AL.off rfl rfl (by decide) rfl ?_
            refine AL.val rfl (.inl rfl) (HV.pickT rfl rfl) ?_
            refine AL.nx ?_
            refine AW.cond rfl (fun _ => ?_) (fun h => by cases h)
            refine AW.rs ?_
            refine AL.val rfl (.inl rfl) (HV.as rfl) ?_
            refine AL.nx ?_
            refine AW.ret ?_
            refine ret_and ?_
            refine post_one rfl rfl ?_ (.inr rfl)
            exfalso; first | omega | exact absurd (hk46.trans hk19.symm) c106 | (simp at c106; done) | exact absurd c106 (by simp)
          · -- false
            have c106_ : decide ((1 + 2 * (l.length : Int)) < 0) = false := decide_eq_false c106
            rw [c106_]
            refine AL.val rfl (.inr ⟨_, _, _, rfl, rfl, rfl⟩) (HV.mv rfl) ?_
            refine AL.val rfl (.inr ⟨_, _, _, rfl, rfl, rfl⟩) (HV.mv rfl) ?_
            refine AL.w rfl (.inr ⟨_, _, _, rfl, rfl, rfl⟩) (WV.call fn45 rfl (eqSS_ok (rd_ofO ho105.rd) (hr22.ext X101))) ?_
            rintro _ H108 ⟨rfl, hx109⟩
            have X110 := Ext.trans X99 hx109
            have X111 := Ext.trans X100 hx109
            have X112 := Ext.trans X101 hx109
            have ho113 := ho105.ext hx109
            refine AL.val rfl (.inr ⟨_, _, _, rfl, rfl, rfl⟩) (HV.not rfl) ?_
            refine AL.val rfl (.inl rfl) (HV.pickF rfl rfl) ?_
            refine AL.val rfl (.inl rfl) (HV.mv rfl) ?_
            by_cases c114 : k45 = k18
            · -- false
              have c114_ : (!decide (k45 = k18)) = false := by rw [decide_eq_true c114]; rfl
              rw [c114_]
              refine AL.val rfl (.inr ⟨_, _, _, rfl, rfl, rfl⟩) (HV.mv rfl) ?_
              refine AL.val rfl (.inr ⟨_, _, _, rfl, rfl, rfl⟩) (HV.mv rfl) ?_
              refine AL.val rfl (.inr ⟨_, _, _, rfl, rfl, rfl⟩) (HV.nei rfl rfl) ?_
              refine AL.val rfl (.inl rfl) (HV.pickF rfl rfl) ?_
              refine AL.nx ?_
              refine AW.ifd rfl (fun c115 => ?_) (fun c115 => ?_)
              · -- then
                refine AW.rs ?_
                refine AL.val rfl (.inl rfl) (HV.as rfl) ?_
                refine AL.nx ?_
                refine AW.ret ?_
                refine ret_and ?_
                refine post_one rfl rfl ?_ (.inr rfl)
                exfalso; first | omega | exact absurd (hk46.trans hk19.symm) c115 | (simp at c115; done) | exact absurd c115 (by simp)
              · -- else
                refine AW.skip ?_
                refine nrm_and ?_
                refine AW.rs ?_
                refine AL.val rfl (.inl rfl) (HV.as rfl) ?_
                refine AL.nx ?_
                refine AW.rs ?_
                refine AL.val rfl (.inl rfl) (HV.mv rfl) ?_
                refine AL.val rfl (.inl rfl) (HV.mv rfl) ?_
                refine AL.w rfl (.inl rfl) (WV.call fn46 rfl (markSS2_ok ho113 hsh_ 1 (by omega))) ?_
                rintro _ H116 ⟨⟨k117, rfl, hs118, hh119, ho121⟩, hx120⟩
                have X122 := Ext.thru X110 hx120 (fun b hb => Nat.le_trans o39 hb.1)
                have X123 := Ext.thru X111 hx120 (fun b hb => Nat.le_trans o40 hb.1)
                have X124 := Ext.thru X112 hx120 (fun b hb => Nat.le_trans o41 hb.1)
                refine AL.val rfl (.inl rfl) (HV.as rfl) ?_
                refine AL.nx ?_
                refine AW.rs ?_
                refine AL.val rfl (.inl rfl) (HV.as rfl) ?_
                refine AL.nx ?_
                refine AW.rs ?_
                refine AL.val rfl (.inl rfl) (HV.mv rfl) ?_
                refine AL.val rfl (.inl rfl) (HV.mv rfl) ?_
                refine AL.w rfl (.inl rfl) (WV.call fn47 rfl (heldSS_ok 1 (rd_ofO ho121.rd) (by omega) hsh_ hs118 hh119)) ?_
                rintro _ H125 ⟨rfl, hx126⟩
                have X127 := Ext.trans X122 hx126
                have X128 := Ext.trans X123 hx126
                have X129 := Ext.trans X124 hx126
                have ho130 := ho121.ext hx126
                refine AL.val rfl (.inl rfl) (HV.as rfl) ?_
                refine AL.nx ?_
                refine AW.seq ?_
                refine AW.rs ?_
                refine AL.val rfl (.inl rfl) (HV.mv rfl) ?_
                refine AL.val rfl (.inl rfl) (HV.lti rfl rfl) ?_
                refine AL.nx ?_
                refine AW.ifd rfl (fun c131 => ?_) (fun c131 => ?_)
                · -- then
                  refine AW.rs ?_
                  refine AL.val rfl (.inl rfl) (HV.as rfl) ?_
                  refine AL.nx ?_
                  refine AW.ret ?_
                  refine ret_and ?_
                  refine post_one rfl rfl ?_ (.inr rfl)
                  exfalso; first | omega | exact absurd (hk46.trans hk19.symm) c131 | (simp at c131; done) | exact absurd c131 (by simp)
                · -- else
                  refine AW.skip ?_
                  refine nrm_and ?_
                  refine AW.seq ?_
                  refine AW.rs ?_
                  refine AL.val rfl (.inl rfl) (HV.mv rfl) ?_
                  refine AL.val rfl (.inl rfl) (HV.mv rfl) ?_
                  refine AL.val rfl (.inl rfl) (HV.nei rfl rfl) ?_
                  refine AL.nx ?_
                  refine AW.ifd rfl (fun c132 => ?_) (fun c132 => ?_)
                  · -- then
                    refine AW.rs ?_
                    refine AL.val rfl (.inl rfl) (HV.as rfl) ?_
                    refine AL.nx ?_
                    refine AW.ret ?_
                    refine ret_and ?_
                    refine post_one rfl rfl ?_ (.inr rfl)
                    exfalso; first | omega | exact absurd (hk46.trans hk19.symm) c132 | (simp at c132; done) | exact absurd c132 (by simp)
                  · -- else
                    refine AW.skip ?_
                    refine nrm_and ?_
                    refine AW.rs ?_
                    refine AL.val rfl (.inl rfl) (HV.mv rfl) ?_
                    refine AL.val rfl (.inl rfl) (HV.mv rfl) ?_
                    refine AL.w rfl (.inl rfl) (WV.call fn39 rfl (toShS_ok (hr.ext X127) (he7 (by omega)))) ?_
                    rintro v133 H134 ⟨hx135, ho136⟩
                    have X138 := Ext.trans X127 hx135
                    have X139 := Ext.trans X128 hx135
                    have X140 := Ext.trans X129 hx135
                    have ho141 := ho130.ext hx135
                    have X142 := Ext.refl H134
                    have hr137 : RdK (kP kI kI) W H134 _ v133 l := ho136.rd
                    refine AL.val rfl (.inl rfl) (HV.mv rfl) ?_
                    refine AL.val rfl (.inl rfl) (HV.mv rfl) ?_
                    have o143 := X138.bd
                    have o144 := X139.bd
                    have o145 := X140.bd
                    have o146 := X142.bd
                    have a147 := ho141.ltb
                    refine AL.w rfl (.inl rfl) (WV.call fn44 rfl (implNC_ok hr137 p dg ag (he7 (by omega)))) ?_
                    rintro _ H151 ⟨⟨v148, k149, rfl, hk150, ho153⟩, hx152⟩
                    have X155 := Ext.trans X138 hx152
                    have X156 := Ext.trans X139 hx152
                    have X157 := Ext.trans X140 hx152
                    have X158 := Ext.trans X142 hx152
                    have ho159 := ho141.ext hx152
                    have X160 := Ext.refl H151
                    have hr154 := rd_ofO ho153.rd
                    refine AL.val rfl (.inl rfl) (HV.mv rfl) ?_
                    refine AL.val rfl (.inl rfl) (HV.ex rfl rfl) ?_
                    refine AL.val rfl (.inl rfl) (HV.ex rfl rfl) ?_
                    refine AL.val rfl (.inl rfl) (HV.as rfl) ?_
                    refine AL.val rfl (.inl rfl) (HV.as rfl) ?_
                    refine AL.nx ?_
                    refine AW.seq ?_
                    refine AW.rs ?_
                    refine AL.val rfl (.inl rfl) (HV.mv rfl) ?_
                    refine AL.val rfl (.inl rfl) (HV.mv rfl) ?_
                    refine AL.w rfl (.inl rfl) (WV.call fn45 rfl (eqSS_ok hr154 (hr22.ext X157))) ?_
                    rintro _ H161 ⟨rfl, hx162⟩
                    have X163 := Ext.trans X155 hx162
                    have X164 := Ext.trans X156 hx162
                    have X165 := Ext.trans X157 hx162
                    have X166 := Ext.trans X158 hx162
                    have X167 := Ext.trans X160 hx162
                    have ho168 := ho159.ext hx162
                    refine AL.val rfl (.inl rfl) (HV.not rfl) ?_
                    refine AL.val rfl (.inl rfl) (HV.mv rfl) ?_
                    by_cases c169 : k149 = k18
                    · -- false
                      have c169_ : (!decide (k149 = k18)) = false := by rw [decide_eq_true c169]; rfl
                      rw [c169_]
                      refine AL.val rfl (.inr ⟨_, _, _, rfl, rfl, rfl⟩) (HV.mv rfl) ?_
                      refine AL.val rfl (.inr ⟨_, _, _, rfl, rfl, rfl⟩) (HV.mv rfl) ?_
                      refine AL.val rfl (.inr ⟨_, _, _, rfl, rfl, rfl⟩) (HV.nei rfl rfl) ?_
                      refine AL.val rfl (.inl rfl) (HV.pickF rfl rfl) ?_
                      refine AL.nx ?_
                      refine AW.ifd rfl (fun c170 => ?_) (fun c170 => ?_)
                      · -- then
                        refine AW.rs ?_
                        refine AL.val rfl (.inl rfl) (HV.as rfl) ?_
                        refine AL.nx ?_
                        refine AW.ret ?_
                        refine ret_and ?_
                        refine post_one rfl rfl ?_ (.inr rfl)
                        exfalso; first | omega | exact absurd (hk46.trans hk19.symm) c170 | exact absurd (hk150.trans hk19.symm) c170 | (simp at c170; done) | exact absurd c170 (by simp)
                      · -- else
                        refine AW.skip ?_
                        refine nrm_and ?_
                        refine AW.rs ?_
                        refine AL.val rfl (.inl rfl) (HV.as rfl) ?_
                        refine AL.nx ?_
                        refine AW.rs ?_
                        refine AL.val rfl (.inl rfl) (HV.mv rfl) ?_
                        refine AL.val rfl (.inl rfl) (HV.mv rfl) ?_
                        refine AL.w rfl (.inl rfl) (WV.call fn47 rfl (heldSS_ok 1 (rd_ofO ho168.rd) (by omega) hsh_ hs118 hh119)) ?_
                        rintro _ H171 ⟨rfl, hx172⟩
                        have X173 := Ext.trans X163 hx172
                        have X174 := Ext.trans X164 hx172
                        have X175 := Ext.trans X165 hx172
                        have X176 := Ext.trans X166 hx172
                        have X177 := Ext.trans X167 hx172
                        have ho178 := ho168.ext hx172
                        refine AL.val rfl (.inl rfl) (HV.as rfl) ?_
                        refine AL.nx ?_
                        refine AW.seq ?_
                        refine AW.rs ?_
                        refine AL.val rfl (.inl rfl) (HV.mv rfl) ?_
                        refine AL.val rfl (.inl rfl) (HV.lti rfl rfl) ?_
                        refine AL.nx ?_
                        refine AW.ifd rfl (fun c179 => ?_) (fun c179 => ?_)
                        · -- then
                          refine AW.rs ?_
                          refine AL.val rfl (.inl rfl) (HV.as rfl) ?_
                          refine AL.nx ?_
                          refine AW.ret ?_
                          refine ret_and ?_
                          refine post_one rfl rfl ?_ (.inr rfl)
                          exfalso; first | omega | exact absurd (hk46.trans hk19.symm) c179 | exact absurd (hk150.trans hk19.symm) c179 | (simp at c179; done) | exact absurd c179 (by simp)
                        · -- else
                          refine AW.skip ?_
                          refine nrm_and ?_
                          refine AW.seq ?_
                          refine AW.rs ?_
                          refine AL.val rfl (.inl rfl) (HV.mv rfl) ?_
                          refine AL.val rfl (.inl rfl) (HV.mv rfl) ?_
                          refine AL.val rfl (.inl rfl) (HV.nei rfl rfl) ?_
                          refine AL.nx ?_
                          refine AW.ifd rfl (fun c180 => ?_) (fun c180 => ?_)
                          · -- then
                            refine AW.rs ?_
                            refine AL.val rfl (.inl rfl) (HV.as rfl) ?_
                            refine AL.nx ?_
                            refine AW.ret ?_
                            refine ret_and ?_
                            refine post_one rfl rfl ?_ (.inr rfl)
                            exfalso; first | omega | exact absurd (hk46.trans hk19.symm) c180 | exact absurd (hk150.trans hk19.symm) c180 | (simp at c180; done) | exact absurd c180 (by simp)
                          · -- else
                            refine AW.skip ?_
                            refine nrm_and ?_
                            refine AW.rs ?_
                            refine AL.val rfl (.inl rfl) (HV.as rfl) ?_
                            refine AL.nx ?_
                            refine AW.ret ?_
                            refine post_one rfl rfl ?_ (.inr rfl)
                            exact ⟨rfl, X173⟩
                    · -- true
                      have c169_ : (!decide (k149 = k18)) = true := by rw [decide_eq_false c169]; rfl
                      rw [c169_]
                      refine AL.off rfl rfl (by decide) rfl ?_
                      refine AL.off rfl rfl (by decide) rfl ?_
                      refine AL.off rfl rfl (by decide) rfl ?_
                      refine AL.val rfl (.inl rfl) (HV.pickT rfl rfl) ?_
                      refine AL.nx ?_
                      refine AW.cond rfl (fun _ => ?_) (fun h => by cases h)
                      refine AW.rs ?_
                      refine AL.val rfl (.inl rfl) (HV.as rfl) ?_
                      refine AL.nx ?_
                      refine AW.ret ?_
                      refine ret_and ?_
                      refine post_one rfl rfl ?_ (.inr rfl)
                      exfalso; first | omega | exact absurd (hk46.trans hk19.symm) c169 | exact absurd (hk150.trans hk19.symm) c169 | (simp at c169; done) | exact absurd c169 (by simp)
            · -- true
              have c114_ : (!decide (k45 = k18)) = true := by rw [decide_eq_false c114]; rfl
              rw [c114_]
              refine AL.off rfl rfl (by decide) rfl ?_
              refine AL.off rfl rfl (by decide) rfl ?_
              refine AL.off rfl rfl (by decide) rfl ?_
              refine AL.val rfl (.inl rfl) (HV.pickT rfl rfl) ?_
              refine AL.nx ?_
              refine AW.cond rfl (fun _ => ?_) (fun h => by cases h)
              refine AW.rs ?_
              refine AL.val rfl (.inl rfl) (HV.as rfl) ?_
              refine AL.nx ?_
              refine AW.ret ?_
              refine ret_and ?_
              refine post_one rfl rfl ?_ (.inr rfl)
              exfalso; first | omega | exact absurd (hk46.trans hk19.symm) c114 | exact absurd (hk150.trans hk19.symm) c114 | (simp at c114; done) | exact absurd c114 (by simp)
    · -- true
      have c67_ : (!decide (k45 = k18)) = true := by rw [decide_eq_false c67]; rfl
      rw [c67_]
      refine AL.off rfl rfl (by decide) rfl ?_
      refine AL.off rfl rfl (by decide) rfl ?_
      refine AL.off rfl rfl (by decide) rfl ?_
      refine AL.val rfl (.inl rfl) (HV.pickT rfl rfl) ?_
      refine AL.nx ?_
      refine AW.cond rfl (fun _ => ?_) (fun h => by cases h)
      refine AW.rs ?_
      refine AL.val rfl (.inl rfl) (HV.as rfl) ?_
      refine AL.nx ?_
      refine AW.ret ?_
      refine ret_and ?_
      refine post_one rfl rfl ?_ (.inr rfl)
      exfalso; first | omega | exact absurd (hk46.trans hk19.symm) c67 | exact absurd (hk150.trans hk19.symm) c67 | (simp at c67; done) | exact absurd c67 (by simp)
end Go.Proofs.Ytbjcgcililpfdaa.VC

