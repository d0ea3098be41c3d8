/- Walks. -/
import Derived.Test.YtbjcgcililpfdaaGreatZN16
set_option linter.unusedVariables false
set_option linter.unusedSimpArgs false
namespace Go.Proofs.YtbjcgcililpfdaaGreat.VC
open Go Go.RowKit
variable {W : World} {H : Hp}

theorem near_short {p : Int} {l : List (Int × Int)} {dg ag : Int} (hv : vS p l) (hd : 0 ≤ dg) : ∀ x ∈ nearK p l dg ag, x.length ≤ 10 := fun x hx => by
  obtain ⟨U, h1, h2, rfl, h4⟩ := ((wk_near (p := p) (l := l) (ag := ag) (m := (dg + 1).toNat) (by omega)).2 x).1 hx
  have q1 := thrC_len p U
  have q2 := h1.length_le
  have q3 := vS_len hv
  omega
theorem neL_short (p : Int) (l : List (Int × Int)) (dg ag : Int) : (neL p l dg ag).length ≤ 300 ∧ ∀ x ∈ neL p l dg ag, x.length ≤ 10 := by
  by_cases h : neC p l dg ag = 0
  · rw [neL_0 h]
    unfold neC at h
    split at h
    · rename_i hv
      split at h
      · rename_i hd
        split at h
        · rename_i h3
          exact ⟨h3, near_short hv hd.1.1⟩
        · omega
      · omega
    · omega
  · rw [neL_n h]
    exact ⟨by simp, fun x hx => by cases hx⟩
set_option maxRecDepth 100000 in
theorem implNC_ok {v : Value} {l : List (Int × Int)} {ok : Nat → Prop} (hr : RdK (kP kI kI) W H ok v l) (p dg ag : Int) (hl : l.length ≤ 1048576) : ACalls Tryz.prog W 14 #[.int .i64 p, v, .int .i64 dg, .int .i64 ag] H (fun r H' => (∃ v k, r = .tuple #[v, .int .i64 (neC p l dg ag)] ∧ k = neL p l dg ag ∧ OwnD (kO 2 kI) 25 W H' (fun b => H.bd ≤ b) v k) ∧ Ext H H') := by
  refine ACalls.of (args := [.int .i64 p, v, .int .i64 dg, .int .i64 ag]) Tryz.func14 rfl rfl ?_
  have X0 := Ext.refl H
  have hm1 := hr.max
  refine AW.rs ?_
  refine AL.val rfl (.inl rfl) (HV.as rfl) ?_
  refine AL.val rfl (.inl rfl) (HV.as rfl) ?_
  refine AL.nx ?_
  refine AW.seq ?_
  refine AW.block ?_
  refine AW.rs ?_
  refine AL.val rfl (.inl rfl) (HV.mv rfl) ?_
  refine AL.val rfl (.inl rfl) (HV.mv rfl) ?_
  refine AL.w rfl (.inl rfl) (WV.call fn27 rfl (implVS_ok hr p (by omega))) ?_
  rintro _ H2 ⟨rfl, hx3⟩
  have X4 := Ext.trans X0 hx3
  refine AL.val rfl (.inl rfl) (HV.not rfl) ?_
  refine AL.val rfl (.inl rfl) (HV.as rfl) ?_
  refine AL.nx ?_
  refine AW.ifn rfl (fun c5 => ?_) (fun c5 => ?_)
  · -- then
    refine AW.rs ?_
    refine AL.val rfl (.inl rfl) (HV.as rfl) ?_
    refine AL.val rfl (.inl rfl) (HV.as rfl) ?_
    refine AL.nx ?_
    refine AW.ret ?_
    refine ret_blk (ret_and ?_)
    refine post_two rfl rfl rfl ?_ (.inr rfl)
    have hC : neC p l dg ag = 1 := ne_1 c5; rw [hC]; exact ⟨⟨_, _, rfl, (neL_n (by omega)).symm, OwnD.nil _⟩, X4⟩
  · -- else
    refine AW.rs ?_
    refine AL.val rfl (.inl rfl) (HV.mv rfl) ?_
    refine AL.w rfl (.inl rfl) (WV.call fn28 rfl (within_ok (W := W) dg 0 6)) ?_
    rintro _ H6 ⟨rfl, hx7⟩
    have X8 := Ext.trans X4 hx7
    refine AL.val rfl (.inl rfl) (HV.not rfl) ?_
    refine AL.val rfl (.inl rfl) (HV.mv rfl) ?_
    by_cases c9 : 0 ≤ dg ∧ dg ≤ 6
    · -- false
      have c9_ : (!decide (0 ≤ dg ∧ dg ≤ 6)) = false := by rw [decide_eq_true c9]; rfl
      rw [c9_]
      refine AL.val rfl (.inr ⟨_, _, _, rfl, rfl, rfl⟩) (HV.mv rfl) ?_
      refine AL.val rfl (.inr ⟨_, _, _, rfl, rfl, rfl⟩) (HV.mv rfl) ?_
      refine AL.val rfl (.inr ⟨_, _, _, rfl, rfl, rfl⟩) (HV.add rfl rfl (by omega)) ?_
      refine AL.w rfl (.inr ⟨_, _, _, rfl, rfl, rfl⟩) (WV.call fn28 rfl (within_ok (W := W) ag (dg + 1) 10)) ?_
      rintro _ H10 ⟨rfl, hx11⟩
      have X12 := Ext.trans X8 hx11
      refine AL.val rfl (.inr ⟨_, _, _, rfl, rfl, rfl⟩) (HV.not rfl) ?_
      refine AL.val rfl (.inl rfl) (HV.pickF rfl rfl) ?_
      refine AL.val rfl (.inl rfl) (HV.as rfl) ?_
      refine AL.nx ?_
      refine AW.ifn rfl (fun c13 => ?_) (fun c13 => ?_)
      · -- then
        refine AW.rs ?_
        refine AL.val rfl (.inl rfl) (HV.as rfl) ?_
        refine AL.val rfl (.inl rfl) (HV.as rfl) ?_
        refine AL.nx ?_
        refine AW.ret ?_
        refine ret_blk (ret_and ?_)
        refine post_two rfl rfl rfl ?_ (.inr rfl)
        have hC : neC p l dg ag = 2 := ne_2 (by assumption) (fun q => by have q1 := q.1; have q2 := q.2; first | omega | contradiction); rw [hC]; exact ⟨⟨_, _, rfl, (neL_n (by omega)).symm, OwnD.nil _⟩, X12⟩
      · -- else
        refine AW.skip ?_
        refine nrm_blk (nrm_and ?_)
        refine AW.rs ?_
        refine AL.val rfl (.inl rfl) (HV.mv rfl) ?_
        refine AL.val rfl (.inl rfl) (HV.mv rfl) ?_
        refine AL.val rfl (.inl rfl) (HV.mv rfl) ?_
        refine AL.val rfl (.inl rfl) (HV.mv rfl) ?_
        have hv : vS p l := by assumption
        have hd : (0 ≤ dg ∧ dg ≤ 6) ∧ dg + 1 ≤ ag ∧ ag ≤ 10 := ⟨by omega, by omega⟩
        have hkl := nearK_len p l dg ag (vS_len hv)
        have X14 := Ext.refl H10
        have o15 := X12.bd
        have o16 := X14.bd
        refine AL.w rfl (.inl rfl) (WV.call fn29 rfl (nearI_ok (dg := dg) (ag := ag) (hr.ext X12) hv hd.1)) ?_
        rintro v17 H18 ⟨hx19, ho20⟩
        have X21 := Ext.trans X12 hx19
        have X22 := Ext.trans X14 hx19
        have X23 := Ext.refl H18
        refine AL.val rfl (.inl rfl) (HV.as rfl) ?_
        refine AL.nx ?_
        refine AW.seq ?_
        refine AW.rs ?_
        refine AL.val rfl (.inl rfl) (HV.mv rfl) ?_
        refine AL.val rfl (.inl rfl) (HV.len Tryz.underlying37 rfl (rd_ofO ho20.rd).isSl) ?_
        refine AL.val rfl (.inl rfl) (HV.gti rfl rfl) ?_
        refine AL.nx ?_
        refine AW.ifd rfl (fun c25 => ?_) (fun c25 => ?_)
        · -- then
          refine AW.rs ?_
          refine AL.val rfl (.inl rfl) (HV.as rfl) ?_
          refine AL.val rfl (.inl rfl) (HV.as rfl) ?_
          refine AL.nx ?_
          refine AW.ret ?_
          refine ret_and ?_
          refine post_two rfl rfl rfl ?_ (.inr rfl)
          have hC : neC p l dg ag = 3 := ne_3 hv hd (by omega); rw [hC]; exact ⟨⟨_, _, rfl, (neL_n (by omega)).symm, OwnD.nil _⟩, X21⟩
        · -- else
          refine AW.skip ?_
          refine nrm_and ?_
          refine AW.rs ?_
          refine AL.val rfl (.inl rfl) (HV.mv rfl) ?_
          refine AL.val rfl (.inl rfl) (HV.as rfl) ?_
          refine AL.val rfl (.inl rfl) (HV.as rfl) ?_
          refine AL.nx ?_
          refine AW.ret ?_
          refine post_two rfl rfl rfl ?_ (.inr rfl)
          have hC : neC p l dg ag = 0 := ne_0 hv hd (by omega); rw [hC]; exact ⟨⟨_, _, rfl, (neL_0 hC).symm, ho20.okk (fun b hb _ => Nat.le_trans o15 hb)⟩, X21⟩
    · -- true
      have c9_ : (!decide (0 ≤ dg ∧ dg ≤ 6)) = true := by rw [decide_eq_false c9]; rfl
      rw [c9_]
      refine AL.off rfl rfl (by decide) rfl ?_
      refine AL.off rfl rfl (by decide) rfl ?_
      refine AL.off rfl rfl (by decide) rfl ?_
      refine AL.off rfl rfl (by decide) rfl ?_
      refine AL.off rfl rfl (by decide) rfl ?_
      refine AL.val rfl (.inl rfl) (HV.pickT rfl rfl) ?_
      refine AL.val rfl (.inl rfl) (HV.as rfl) ?_
      refine AL.nx ?_
      refine AW.cond rfl (fun _ => ?_) (fun h => by cases h)
      refine AW.rs ?_
      refine AL.val rfl (.inl rfl) (HV.as rfl) ?_
      refine AL.val rfl (.inl rfl) (HV.as rfl) ?_
      refine AL.nx ?_
      refine AW.ret ?_
      refine ret_blk (ret_and ?_)
      refine post_two rfl rfl rfl ?_ (.inr rfl)
      have hC : neC p l dg ag = 2 := ne_2 (by assumption) (fun q => by have q1 := q.1; have q2 := q.2; first | omega | contradiction); rw [hC]; exact ⟨⟨_, _, rfl, (neL_n (by omega)).symm, OwnD.nil _⟩, X8⟩

theorem specNC2_ok {v : Value} {l : List (Int × Int)} {ok : Nat → Prop} (hr : RdK (kP kI kI) W H ok v l) (p dg ag : Int) (hl : l.length ≤ 1048576) : ACalls Tryz.prog W 15 #[.int .i64 p, v, .int .i64 dg, .int .i64 ag] H (fun r H' => (∃ v k, r = .tuple #[v, .int .i64 (neC p l dg ag)] ∧ k = neL p l dg ag ∧ RdK (kR kI) W H' (fun _ => True) v k) ∧ Ext H H') :=
  (specNC_ok hr p dg ag hl).mono fun r H' h => by
    obtain ⟨⟨v, rfl, h2⟩, hx⟩ := h
    exact ⟨⟨v, _, rfl, rfl, h2⟩, hx⟩
end Go.Proofs.YtbjcgcililpfdaaGreat.VC

