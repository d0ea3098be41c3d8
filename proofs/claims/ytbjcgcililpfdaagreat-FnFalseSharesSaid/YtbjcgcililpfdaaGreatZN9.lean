/- Walks. -/
import Derived.Test.YtbjcgcililpfdaaGreatZN8
set_option linter.unusedVariables false
set_option linter.unusedSimpArgs false
namespace Go.Proofs.YtbjcgcililpfdaaGreat.VC
open Go Go.RowKit
variable {W : World} {H : Hp}

noncomputable def neC (p : Int) (l : List (Int × Int)) (dg ag : Int) : Int := if vS p l then if (0 ≤ dg ∧ dg ≤ 6) ∧ dg + 1 ≤ ag ∧ ag ≤ 10 then if (nearK p l dg ag).length ≤ 300 then 0 else 3 else 2 else 1
noncomputable def neL (p : Int) (l : List (Int × Int)) (dg ag : Int) : List (List Int) := if neC p l dg ag = 0 then nearK p l dg ag else []
theorem ne_1 {p : Int} {l : List (Int × Int)} {dg ag : Int} (h : ¬ vS p l) : neC p l dg ag = 1 := if_neg h
theorem ne_2 {p : Int} {l : List (Int × Int)} {dg ag : Int} (h : vS p l) (h2 : ¬ ((0 ≤ dg ∧ dg ≤ 6) ∧ dg + 1 ≤ ag ∧ ag ≤ 10)) : neC p l dg ag = 2 := by unfold neC; rw [if_pos h, if_neg h2]
theorem ne_3 {p : Int} {l : List (Int × Int)} {dg ag : Int} (h : vS p l) (h2 : (0 ≤ dg ∧ dg ≤ 6) ∧ dg + 1 ≤ ag ∧ ag ≤ 10) (h3 : ¬ (nearK p l dg ag).length ≤ 300) : neC p l dg ag = 3 := by unfold neC; rw [if_pos h, if_pos h2, if_neg h3]
theorem ne_0 {p : Int} {l : List (Int × Int)} {dg ag : Int} (h : vS p l) (h2 : (0 ≤ dg ∧ dg ≤ 6) ∧ dg + 1 ≤ ag ∧ ag ≤ 10) (h3 : (nearK p l dg ag).length ≤ 300) : neC p l dg ag = 0 := by unfold neC; rw [if_pos h, if_pos h2, if_pos h3]
theorem neL_0 {p : Int} {l : List (Int × Int)} {dg ag : Int} (h : neC p l dg ag = 0) : neL p l dg ag = nearK p l dg ag := if_pos h
theorem neL_n {p : Int} {l : List (Int × Int)} {dg ag : Int} (h : ¬ neC p l dg ag = 0) : neL p l dg ag = [] := if_neg h
theorem nearK_len (p : Int) (l : List (Int × Int)) (dg ag : Int) (h : l.length ≤ 10) : (nearK p l dg ag).length ≤ 1024 := by
  have q := wk_len (tryC_len p l ag) (m := (dg + 1).toNat) l [] []
  have q2 := Nat.pow_le_pow_right (n := 2) (by decide) h
  unfold nearK
  simp only [List.length_nil] at q
  omega
set_option maxRecDepth 100000 in
theorem specNC_ok {v : Value} {l : List (Int × Int)} {ok : Nat → Prop} (hr : RdK (kP kI kI) W H ok v l) (p dg ag : Int) (hl : l.length ≤ 1048576) : ACalls Tryz.prog W 15 #[.int .i64 p, v, .int .i64 dg, .int .i64 ag] H (fun r H' => (∃ v, r = .tuple #[v, .int .i64 (neC p l dg ag)] ∧ RdK (kR kI) W H' (fun _ => True) v (neL p l dg ag)) ∧ Ext H H') := by
  refine ACalls.of (args := [.int .i64 p, v, .int .i64 dg, .int .i64 ag]) Tryz.func15 rfl rfl ?_
  have X0 := Ext.refl H
  have hm1 := hr.max
  refine AW.rs ?_
  refine AL.val rfl (.inl rfl) (HV.as rfl) ?_
  refine AL.val rfl (.inl rfl) (HV.as rfl) ?_
  refine AL.nx ?_
  refine AW.seq ?_
  refine AW.rs ?_
  refine AL.val rfl (.inl rfl) (HV.mv rfl) ?_
  refine AL.val rfl (.inl rfl) (HV.mv rfl) ?_
  refine AL.w rfl (.inl rfl) (WV.call fn31 rfl (specVS_ok hr p (by omega))) ?_
  rintro _ H2 ⟨rfl, hx3⟩
  have X4 := Ext.trans X0 hx3
  refine AL.val rfl (.inl rfl) (HV.not rfl) ?_
  refine AL.nx ?_
  refine AW.ifn rfl (fun c5 => ?_) (fun c5 => ?_)
  · -- then
    refine AW.rs ?_
    have X6 := Ext.refl H2
    have o7 := X4.bd
    have o8 := X6.bd
    refine AL.w rfl (.inl rfl) (WV.bsK (K := (kO 2 kI)) (l := ([] : List (List Int))) (css := []) sl37 rfl rfl (by first | rfl | (simp [Instr.fill, Value.cells, kI, kB, kU, kU8, kS, Kd.sc]; done) | (simp [Instr.fill, Value.cells, kI, kB, kU, kU8, kS, Kd.sc, rng1, rng2, rng3, rng4, kP])) rfl segs_nil) ?_
    rintro v9 H10 ⟨hx11, ho12⟩
    have X13 := Ext.trans X4 hx11
    have X14 := Ext.trans X6 hx11
    have ho15 := ho12.deep0
    refine AL.val rfl (.inl rfl) (HV.as rfl) ?_
    refine AL.val rfl (.inl rfl) (HV.as rfl) ?_
    refine AL.nx ?_
    refine AW.ret ?_
    refine ret_and ?_
    refine post_two rfl rfl rfl ?_ (.inr rfl)
    have hC : neC p l dg ag = 1 := ne_1 c5; rw [hC, neL_n (by omega)]; exact ⟨⟨_, rfl, ((rd_ofO ho15.rd)).okk (fun _ _ _ => trivial)⟩, X13⟩
  · -- else
    refine AW.skip ?_
    refine nrm_and ?_
    refine AW.seq ?_
    refine AW.rs ?_
    refine AL.val rfl (.inl rfl) (HV.mv rfl) ?_
    refine AL.w rfl (.inl rfl) (WV.call fn32 rfl (l00In_ok (W := W) dg 0 6)) ?_
    rintro _ H17 ⟨rfl, hx18⟩
    have X19 := Ext.trans X4 hx18
    refine AL.val rfl (.inl rfl) (HV.not rfl) ?_
    refine AL.val rfl (.inl rfl) (HV.mv rfl) ?_
    by_cases c20 : 0 ≤ dg ∧ dg ≤ 6
    · -- false
      have c20_ : (!decide (0 ≤ dg ∧ dg ≤ 6)) = false := by rw [decide_eq_true c20]; rfl
      rw [c20_]
      refine AL.val rfl (.inr ⟨_, _, _, rfl, rfl, rfl⟩) (HV.mv rfl) ?_
      refine AL.val rfl (.inr ⟨_, _, _, rfl, rfl, rfl⟩) (HV.mv rfl) ?_
      refine AL.val rfl (.inr ⟨_, _, _, rfl, rfl, rfl⟩) (HV.add rfl rfl (by omega)) ?_
      refine AL.w rfl (.inr ⟨_, _, _, rfl, rfl, rfl⟩) (WV.call fn32 rfl (l00In_ok (W := W) ag (dg + 1) 10)) ?_
      rintro _ H21 ⟨rfl, hx22⟩
      have X23 := Ext.trans X19 hx22
      refine AL.val rfl (.inr ⟨_, _, _, rfl, rfl, rfl⟩) (HV.not rfl) ?_
      refine AL.val rfl (.inl rfl) (HV.pickF rfl rfl) ?_
      refine AL.nx ?_
      refine AW.ifn rfl (fun c24 => ?_) (fun c24 => ?_)
      · -- then
        refine AW.rs ?_
        have X25 := Ext.refl H21
        have o26 := X23.bd
        have o27 := X25.bd
        refine AL.w rfl (.inl rfl) (WV.bsK (K := (kO 2 kI)) (l := ([] : List (List Int))) (css := []) sl37 rfl rfl (by first | rfl | (simp [Instr.fill, Value.cells, kI, kB, kU, kU8, kS, Kd.sc]; done) | (simp [Instr.fill, Value.cells, kI, kB, kU, kU8, kS, Kd.sc, rng1, rng2, rng3, rng4, kP])) rfl segs_nil) ?_
        rintro v28 H29 ⟨hx30, ho31⟩
        have X32 := Ext.trans X23 hx30
        have X33 := Ext.trans X25 hx30
        have ho34 := ho31.deep0
        refine AL.val rfl (.inl rfl) (HV.as rfl) ?_
        refine AL.val rfl (.inl rfl) (HV.as rfl) ?_
        refine AL.nx ?_
        refine AW.ret ?_
        refine ret_and ?_
        refine post_two rfl rfl rfl ?_ (.inr rfl)
        have hC : neC p l dg ag = 2 := ne_2 (by assumption) (fun q => by have q1 := q.1; have q2 := q.2; first | omega | contradiction); rw [hC, neL_n (by omega)]; exact ⟨⟨_, rfl, ((rd_ofO ho34.rd)).okk (fun _ _ _ => trivial)⟩, X32⟩
      · -- else
        refine AW.skip ?_
        refine nrm_and ?_
        refine AW.rs ?_
        have hv : vS p l := by assumption
        have hd : (0 ≤ dg ∧ dg ≤ 6) ∧ dg + 1 ≤ ag ∧ ag ≤ 10 := ⟨by omega, by omega⟩
        have hkl := nearK_len p l dg ag (vS_len hv)
        refine AL.val rfl (.inl rfl) (HV.mv rfl) ?_
        refine AL.val rfl (.inl rfl) (HV.mv rfl) ?_
        refine AL.val rfl (.inl rfl) (HV.mv rfl) ?_
        refine AL.val rfl (.inl rfl) (HV.mv rfl) ?_
        refine AL.w rfl (.inl rfl) (WV.call fn33 rfl (near5_ok (dg := dg) (ag := ag) (hr.ext X23) hv hd.1)) ?_
        rintro v36 H37 ⟨hr39, hx38⟩
        have X40 := Ext.trans X23 hx38
        have X41 := Ext.refl H37
        refine AL.val rfl (.inl rfl) (HV.as rfl) ?_
        refine AL.nx ?_
        refine AW.seq ?_
        refine AW.rs ?_
        refine AL.val rfl (.inl rfl) (HV.mv rfl) ?_
        refine AL.val rfl (.inl rfl) (HV.len Tryz.underlying37 rfl hr39.isSl) ?_
        refine AL.val rfl (.inl rfl) (HV.gti rfl rfl) ?_
        refine AL.nx ?_
        refine AW.ifd rfl (fun c42 => ?_) (fun c42 => ?_)
        · -- then
          refine AW.rs ?_
          have o43 := X40.bd
          have o44 := X41.bd
          refine AL.w rfl (.inl rfl) (WV.bsK (K := (kO 2 kI)) (l := ([] : List (List Int))) (css := []) sl37 rfl rfl (by first | rfl | (simp [Instr.fill, Value.cells, kI, kB, kU, kU8, kS, Kd.sc]; done) | (simp [Instr.fill, Value.cells, kI, kB, kU, kU8, kS, Kd.sc, rng1, rng2, rng3, rng4, kP])) rfl segs_nil) ?_
          rintro v45 H46 ⟨hx47, ho48⟩
          have X49 := Ext.trans X40 hx47
          have X50 := Ext.trans X41 hx47
          have ho51 := ho48.deep0
          refine AL.val rfl (.inl rfl) (HV.as rfl) ?_
          refine AL.val rfl (.inl rfl) (HV.as rfl) ?_
          refine AL.nx ?_
          refine AW.ret ?_
          refine ret_and ?_
          refine post_two rfl rfl rfl ?_ (.inr rfl)
          have hC : neC p l dg ag = 3 := ne_3 hv hd (by omega); rw [hC, neL_n (by omega)]; exact ⟨⟨_, rfl, ((rd_ofO ho51.rd)).okk (fun _ _ _ => trivial)⟩, X49⟩
        · -- else
          refine AW.skip ?_
          refine nrm_and ?_
          refine AW.rs ?_
          refine AL.val rfl (.inl rfl) (HV.mv rfl) ?_
          refine AL.val rfl (.inl rfl) (HV.as rfl) ?_
          refine AL.val rfl (.inl rfl) (HV.as rfl) ?_
          refine AL.nx ?_
          refine AW.ret ?_
          refine post_two rfl rfl rfl ?_ (.inr rfl)
          have hC : neC p l dg ag = 0 := ne_0 hv hd (by omega); rw [hC, neL_0 hC]; exact ⟨⟨_, rfl, (hr39).okk (fun _ _ _ => trivial)⟩, X40⟩
    · -- true
      have c20_ : (!decide (0 ≤ dg ∧ dg ≤ 6)) = true := by rw [decide_eq_false c20]; rfl
      rw [c20_]
      refine AL.off rfl rfl (by decide) rfl ?_
      refine AL.off rfl rfl (by decide) rfl ?_
      refine AL.off rfl rfl (by decide) rfl ?_
      refine AL.off rfl rfl (by decide) rfl ?_
      refine AL.off rfl rfl (by decide) rfl ?_
      refine AL.val rfl (.inl rfl) (HV.pickT rfl rfl) ?_
      refine AL.nx ?_
      refine AW.cond rfl (fun _ => ?_) (fun h => by cases h)
      refine AW.rs ?_
      have X54 := Ext.refl H17
      have o55 := X19.bd
      have o56 := X54.bd
      refine AL.w rfl (.inl rfl) (WV.bsK (K := (kO 2 kI)) (l := ([] : List (List Int))) (css := []) sl37 rfl rfl (by first | rfl | (simp [Instr.fill, Value.cells, kI, kB, kU, kU8, kS, Kd.sc]; done) | (simp [Instr.fill, Value.cells, kI, kB, kU, kU8, kS, Kd.sc, rng1, rng2, rng3, rng4, kP])) rfl segs_nil) ?_
      rintro v57 H58 ⟨hx59, ho60⟩
      have X61 := Ext.trans X19 hx59
      have X62 := Ext.trans X54 hx59
      have ho63 := ho60.deep0
      refine AL.val rfl (.inl rfl) (HV.as rfl) ?_
      refine AL.val rfl (.inl rfl) (HV.as rfl) ?_
      refine AL.nx ?_
      refine AW.ret ?_
      refine ret_and ?_
      refine post_two rfl rfl rfl ?_ (.inr rfl)
      have hC : neC p l dg ag = 2 := ne_2 (by assumption) (fun q => by have q1 := q.1; have q2 := q.2; first | omega | contradiction); rw [hC, neL_n (by omega)]; exact ⟨⟨_, rfl, ((rd_ofO ho63.rd)).okk (fun _ _ _ => trivial)⟩, X61⟩
end Go.Proofs.YtbjcgcililpfdaaGreat.VC

