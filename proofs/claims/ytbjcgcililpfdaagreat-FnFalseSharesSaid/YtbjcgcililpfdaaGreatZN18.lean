/- Walks. -/
import Derived.Test.YtbjcgcililpfdaaGreatZN17
set_option linter.unusedVariables false
set_option linter.unusedSimpArgs false
namespace Go.Proofs.YtbjcgcililpfdaaGreat.VC
open Go Go.RowKit
variable {W : World} {H : Hp}

noncomputable def fsC (p : Int) (l : List (Int × Int)) (dg mo : Int) : Int := if vS p l then if (0 ≤ dg ∧ dg ≤ 6) ∧ 0 ≤ mo then if mo ≤ 10 ∧ dg + 1 + 2 * mo ≤ (l.length : Int) then if (nearK p l dg ((l.length : Int) - mo)).length = 0 then 6 else 0 else 4 else 2 else 1
noncomputable def fsA (p : Int) (l : List (Int × Int)) (dg mo : Int) : List Int := if fsC p l dg mo = 0 then (nearK p l dg ((l.length : Int) - mo)).getD 0 [] else []
noncomputable def fsB (p : Int) (l : List (Int × Int)) (dg mo : Int) : List Int := if fsC p l dg mo = 0 then missL p l (fsA p l dg mo) else []
section
variable {p : Int} {l : List (Int × Int)} {dg mo : Int}
theorem fs_1 (h : ¬ vS p l) : fsC p l dg mo = 1 := if_neg h
theorem fs_2 (h : vS p l) (h2 : ¬ ((0 ≤ dg ∧ dg ≤ 6) ∧ 0 ≤ mo)) : fsC p l dg mo = 2 := by unfold fsC; rw [if_pos h, if_neg h2]
theorem fs_4 (h : vS p l) (h2 : (0 ≤ dg ∧ dg ≤ 6) ∧ 0 ≤ mo) (h3 : ¬ (mo ≤ 10 ∧ dg + 1 + 2 * mo ≤ (l.length : Int))) : fsC p l dg mo = 4 := by unfold fsC; rw [if_pos h, if_pos h2, if_neg h3]
theorem fs_6 (h : vS p l) (h2 : (0 ≤ dg ∧ dg ≤ 6) ∧ 0 ≤ mo) (h3 : mo ≤ 10 ∧ dg + 1 + 2 * mo ≤ (l.length : Int)) (h4 : (nearK p l dg ((l.length : Int) - mo)).length = 0) : fsC p l dg mo = 6 := by unfold fsC; rw [if_pos h, if_pos h2, if_pos h3, if_pos h4]
theorem fs_0 (h : vS p l) (h2 : (0 ≤ dg ∧ dg ≤ 6) ∧ 0 ≤ mo) (h3 : mo ≤ 10 ∧ dg + 1 + 2 * mo ≤ (l.length : Int)) (h4 : ¬ (nearK p l dg ((l.length : Int) - mo)).length = 0) : fsC p l dg mo = 0 := by unfold fsC; rw [if_pos h, if_pos h2, if_pos h3, if_neg h4]
theorem fsA_0 (h : fsC p l dg mo = 0) {z : List Int} (hz : (nearK p l dg ((l.length : Int) - mo))[0]? = some z) : fsA p l dg mo = z := by
  unfold fsA; rw [if_pos h, List.getD_eq_getElem?_getD, hz]; rfl
theorem fsB_0 (h : fsC p l dg mo = 0) {z : List Int} (hz : (nearK p l dg ((l.length : Int) - mo))[0]? = some z) : fsB p l dg mo = missL p l z := by
  unfold fsB; rw [if_pos h, fsA_0 h hz]
theorem fsA_n (h : ¬ fsC p l dg mo = 0) : fsA p l dg mo = [] := if_neg h
theorem fsB_n (h : ¬ fsC p l dg mo = 0) : fsB p l dg mo = [] := if_neg h
theorem near_in {ag : Int} (hv : vS p l) (hd : 0 ≤ dg) : ∀ x ∈ nearK p l dg ag, elems p x := fun x hx => by
  obtain ⟨U, h1, h2, rfl, h4⟩ := ((wk_near (p := p) (l := l) (ag := ag) (m := (dg + 1).toNat) (by omega)).2 x).1 hx
  exact thrC_in hv.1.1.1 U
end
set_option maxRecDepth 100000 in
theorem specFS_ok {v : Value} {l : List (Int × Int)} {ok : Nat → Prop} (hr : RdK (kP kI kI) W H ok v l) (p dg mo : Int) (hl : l.length ≤ 1048576) : ACalls Tryz.prog W 12 #[.int .i64 p, v, .int .i64 dg, .int .i64 mo] H (fun r H' => (∃ v1 v2, r = .tuple #[v1, v2, .int .i64 (fsC p l dg mo)] ∧ RdK kI W H' (fun _ => True) v1 (fsA p l dg mo) ∧ RdK kI W H' (fun _ => True) v2 (fsB p l dg mo)) ∧ Ext H H') := by
  refine ACalls.of (args := [.int .i64 p, v, .int .i64 dg, .int .i64 mo]) Tryz.func12 rfl rfl ?_
  have X0 := Ext.refl H
  have hm1 := hr.max
  refine AW.rs ?_
  refine AL.val rfl (.inl rfl) (HV.as rfl) ?_
  refine AL.val rfl (.inl rfl) (HV.as rfl) ?_
  refine AL.val rfl (.inl rfl) (HV.as rfl) ?_
  refine AL.nx ?_
  refine AW.seq ?_
  refine AW.rs ?_
  refine AL.val rfl (.inl rfl) (HV.mv rfl) ?_
  refine AL.val rfl (.inl rfl) (HV.mv rfl) ?_
  refine AL.w rfl (.inl rfl) (WV.call fn31 rfl (specVS_ok hr p (by omega))) ?_
  rintro _ H2 ⟨rfl, hx3⟩
  have X4 := Ext.trans X0 hx3
  refine AL.val rfl (.inl rfl) (HV.not rfl) ?_
  refine AL.nx ?_
  refine AW.ifn rfl (fun c5 => ?_) (fun c5 => ?_)
  · -- then
    refine AW.rs ?_
    have X6 := Ext.refl H2
    have o7 := X4.bd
    have o8 := X6.bd
    refine AL.w rfl (.inl rfl) (WV.bsK (K := kI) (l := ([] : List Int)) (css := []) sl25 rfl rfl (by first | rfl | (simp [Instr.fill, Value.cells, kI, kB, kU, kU8, kS, Kd.sc]; done) | (simp [Instr.fill, Value.cells, kI, kB, kU, kU8, kS, Kd.sc, rng1, rng2, rng3, rng4, kP])) rfl segs_nil) ?_
    rintro v9 H10 ⟨hx11, ho12⟩
    have X13 := Ext.trans X4 hx11
    have X14 := Ext.trans X6 hx11
    have X16 := Ext.refl H10
    have o17 := X13.bd
    have o18 := X14.bd
    have o19 := X16.bd
    have a20 := ho12.ltb
    refine AL.w rfl (.inl rfl) (WV.bsK (K := kI) (l := ([] : List Int)) (css := []) sl25 rfl rfl (by first | rfl | (simp [Instr.fill, Value.cells, kI, kB, kU, kU8, kS, Kd.sc]; done) | (simp [Instr.fill, Value.cells, kI, kB, kU, kU8, kS, Kd.sc, rng1, rng2, rng3, rng4, kP])) rfl segs_nil) ?_
    rintro v21 H22 ⟨hx23, ho24⟩
    have X25 := Ext.trans X13 hx23
    have X26 := Ext.trans X14 hx23
    have X27 := Ext.trans X16 hx23
    have ho28 := ho12.ext hx23
    refine AL.val rfl (.inl rfl) (HV.as rfl) ?_
    refine AL.val rfl (.inl rfl) (HV.as rfl) ?_
    refine AL.val rfl (.inl rfl) (HV.as rfl) ?_
    refine AL.nx ?_
    refine AW.ret ?_
    refine ret_and ?_
    refine post_three rfl rfl rfl rfl ?_ (.inr rfl)
    have hC : fsC p l dg mo = 1 := fs_1 c5; rw [hC]; rw [fsA_n (by omega), fsB_n (by omega)]; exact ⟨⟨_, _, rfl, (ho28.rd).okk (fun _ _ _ => trivial), (ho24.rd).okk (fun _ _ _ => trivial)⟩, X25⟩
  · -- else
    refine AW.skip ?_
    refine nrm_and ?_
    refine AW.seq ?_
    refine AW.rs ?_
    refine AL.val rfl (.inl rfl) (HV.mv rfl) ?_
    refine AL.w rfl (.inl rfl) (WV.call fn32 rfl (l00In_ok (W := W) dg 0 6)) ?_
    rintro _ H30 ⟨rfl, hx31⟩
    have X32 := Ext.trans X4 hx31
    refine AL.val rfl (.inl rfl) (HV.not rfl) ?_
    refine AL.val rfl (.inl rfl) (HV.mv rfl) ?_
    by_cases c33 : 0 ≤ dg ∧ dg ≤ 6
    · -- false
      have c33_ : (!decide (0 ≤ dg ∧ dg ≤ 6)) = false := by rw [decide_eq_true c33]; rfl
      rw [c33_]
      refine AL.val rfl (.inr ⟨_, _, _, rfl, rfl, rfl⟩) (HV.mv rfl) ?_
      refine AL.val rfl (.inr ⟨_, _, _, rfl, rfl, rfl⟩) (HV.lti rfl rfl) ?_
      refine AL.val rfl (.inl rfl) (HV.pickF rfl rfl) ?_
      refine AL.nx ?_
      refine AW.ifd rfl (fun c34 => ?_) (fun c34 => ?_)
      · -- then
        refine AW.rs ?_
        have X35 := Ext.refl H30
        have o36 := X32.bd
        have o37 := X35.bd
        refine AL.w rfl (.inl rfl) (WV.bsK (K := kI) (l := ([] : List Int)) (css := []) sl25 rfl rfl (by first | rfl | (simp [Instr.fill, Value.cells, kI, kB, kU, kU8, kS, Kd.sc]; done) | (simp [Instr.fill, Value.cells, kI, kB, kU, kU8, kS, Kd.sc, rng1, rng2, rng3, rng4, kP])) rfl segs_nil) ?_
        rintro v38 H39 ⟨hx40, ho41⟩
        have X42 := Ext.trans X32 hx40
        have X43 := Ext.trans X35 hx40
        have X45 := Ext.refl H39
        have o46 := X42.bd
        have o47 := X43.bd
        have o48 := X45.bd
        have a49 := ho41.ltb
        refine AL.w rfl (.inl rfl) (WV.bsK (K := kI) (l := ([] : List Int)) (css := []) sl25 rfl rfl (by first | rfl | (simp [Instr.fill, Value.cells, kI, kB, kU, kU8, kS, Kd.sc]; done) | (simp [Instr.fill, Value.cells, kI, kB, kU, kU8, kS, Kd.sc, rng1, rng2, rng3, rng4, kP])) rfl segs_nil) ?_
        rintro v50 H51 ⟨hx52, ho53⟩
        have X54 := Ext.trans X42 hx52
        have X55 := Ext.trans X43 hx52
        have X56 := Ext.trans X45 hx52
        have ho57 := ho41.ext hx52
        refine AL.val rfl (.inl rfl) (HV.as rfl) ?_
        refine AL.val rfl (.inl rfl) (HV.as rfl) ?_
        refine AL.val rfl (.inl rfl) (HV.as rfl) ?_
        refine AL.nx ?_
        refine AW.ret ?_
        refine ret_and ?_
        refine post_three rfl rfl rfl rfl ?_ (.inr rfl)
        have hC : fsC p l dg mo = 2 := fs_2 (by assumption) (fun q => by have q1 := q.1; have q2 := q.2; first | omega | contradiction); rw [hC]; rw [fsA_n (by omega), fsB_n (by omega)]; exact ⟨⟨_, _, rfl, (ho57.rd).okk (fun _ _ _ => trivial), (ho53.rd).okk (fun _ _ _ => trivial)⟩, X54⟩
      · -- else
        refine AW.skip ?_
        refine nrm_and ?_
        refine AW.rs ?_
        refine AL.val rfl (.inl rfl) (HV.mv rfl) ?_
        refine AL.val rfl (.inl rfl) (HV.len Tryz.underlying28 rfl hr.isSl) ?_
        refine AL.val rfl (.inl rfl) (HV.as rfl) ?_
        refine AL.nx ?_
        refine AW.seq ?_
        refine AW.rs ?_
        refine AL.val rfl (.inl rfl) (HV.mv rfl) ?_
        refine AL.val rfl (.inl rfl) (HV.gti rfl rfl) ?_
        refine AL.val rfl (.inl rfl) (HV.mv rfl) ?_
        by_cases c59 : mo > 10
        · -- true
          have c59_ : decide (mo > 10) = true := decide_eq_true c59
          rw [c59_]
          refine AL.off rfl rfl (by decide) rfl ?_
          refine AL.off rfl rfl (by decide) rfl ?_
          refine AL.off rfl rfl (by decide) rfl ?_
          refine AL.off rfl rfl (by decide) rfl ?_
          refine AL.off rfl rfl (by decide) rfl ?_
          refine AL.off rfl rfl (by decide) rfl ?_
          refine AL.off rfl rfl (by decide) rfl ?_
          refine AL.val rfl (.inl rfl) (HV.pickT rfl rfl) ?_
          refine AL.nx ?_
          refine AW.cond rfl (fun _ => ?_) (fun h => by cases h)
          refine AW.rs ?_
          have X61 := Ext.refl H30
          have o62 := X32.bd
          have o63 := X61.bd
          refine AL.w rfl (.inl rfl) (WV.bsK (K := kI) (l := ([] : List Int)) (css := []) sl25 rfl rfl (by first | rfl | (simp [Instr.fill, Value.cells, kI, kB, kU, kU8, kS, Kd.sc]; done) | (simp [Instr.fill, Value.cells, kI, kB, kU, kU8, kS, Kd.sc, rng1, rng2, rng3, rng4, kP])) rfl segs_nil) ?_
          rintro v64 H65 ⟨hx66, ho67⟩
          have X68 := Ext.trans X32 hx66
          have X69 := Ext.trans X61 hx66
          have X71 := Ext.refl H65
          have o72 := X68.bd
          have o73 := X69.bd
          have o74 := X71.bd
          have a75 := ho67.ltb
          refine AL.w rfl (.inl rfl) (WV.bsK (K := kI) (l := ([] : List Int)) (css := []) sl25 rfl rfl (by first | rfl | (simp [Instr.fill, Value.cells, kI, kB, kU, kU8, kS, Kd.sc]; done) | (simp [Instr.fill, Value.cells, kI, kB, kU, kU8, kS, Kd.sc, rng1, rng2, rng3, rng4, kP])) rfl segs_nil) ?_
          rintro v76 H77 ⟨hx78, ho79⟩
          have X80 := Ext.trans X68 hx78
          have X81 := Ext.trans X69 hx78
          have X82 := Ext.trans X71 hx78
          have ho83 := ho67.ext hx78
          refine AL.val rfl (.inl rfl) (HV.as rfl) ?_
          refine AL.val rfl (.inl rfl) (HV.as rfl) ?_
          refine AL.val rfl (.inl rfl) (HV.as rfl) ?_
          refine AL.nx ?_
          refine AW.ret ?_
          refine ret_and ?_
          refine post_three rfl rfl rfl rfl ?_ (.inr rfl)
          have hC : fsC p l dg mo = 4 := fs_4 (by assumption) ⟨by omega, by omega⟩ (fun q => by have q1 := q.1; have q2 := q.2; have q3 := vS_len (by assumption : vS p l); omega); rw [hC]; rw [fsA_n (by omega), fsB_n (by omega)]; exact ⟨⟨_, _, rfl, (ho83.rd).okk (fun _ _ _ => trivial), (ho79.rd).okk (fun _ _ _ => trivial)⟩, X80⟩
        · -- false
          have c59_ : decide (mo > 10) = false := decide_eq_false c59
          rw [c59_]
          refine AL.val rfl (.inr ⟨_, _, _, rfl, rfl, rfl⟩) (HV.mv rfl) ?_
          refine AL.val rfl (.inr ⟨_, _, _, rfl, rfl, rfl⟩) (HV.mv rfl) ?_
          refine AL.val rfl (.inr ⟨_, _, _, rfl, rfl, rfl⟩) (HV.add rfl rfl (by omega)) ?_
          refine AL.val rfl (.inr ⟨_, _, _, rfl, rfl, rfl⟩) (HV.mv rfl) ?_
          refine AL.val rfl (.inr ⟨_, _, _, rfl, rfl, rfl⟩) (HV.mul rfl rfl (by omega)) ?_
          refine AL.val rfl (.inr ⟨_, _, _, rfl, rfl, rfl⟩) (HV.add rfl rfl (by omega)) ?_
          refine AL.val rfl (.inr ⟨_, _, _, rfl, rfl, rfl⟩) (HV.lti rfl rfl) ?_
          refine AL.val rfl (.inl rfl) (HV.pickF rfl rfl) ?_
          refine AL.nx ?_
          refine AW.ifd rfl (fun c85 => ?_) (fun c85 => ?_)
          · -- then
            refine AW.rs ?_
            have X86 := Ext.refl H30
            have o87 := X32.bd
            have o88 := X86.bd
            refine AL.w rfl (.inl rfl) (WV.bsK (K := kI) (l := ([] : List Int)) (css := []) sl25 rfl rfl (by first | rfl | (simp [Instr.fill, Value.cells, kI, kB, kU, kU8, kS, Kd.sc]; done) | (simp [Instr.fill, Value.cells, kI, kB, kU, kU8, kS, Kd.sc, rng1, rng2, rng3, rng4, kP])) rfl segs_nil) ?_
            rintro v89 H90 ⟨hx91, ho92⟩
            have X93 := Ext.trans X32 hx91
            have X94 := Ext.trans X86 hx91
            have X96 := Ext.refl H90
            have o97 := X93.bd
            have o98 := X94.bd
            have o99 := X96.bd
            have a100 := ho92.ltb
            refine AL.w rfl (.inl rfl) (WV.bsK (K := kI) (l := ([] : List Int)) (css := []) sl25 rfl rfl (by first | rfl | (simp [Instr.fill, Value.cells, kI, kB, kU, kU8, kS, Kd.sc]; done) | (simp [Instr.fill, Value.cells, kI, kB, kU, kU8, kS, Kd.sc, rng1, rng2, rng3, rng4, kP])) rfl segs_nil) ?_
            rintro v101 H102 ⟨hx103, ho104⟩
            have X105 := Ext.trans X93 hx103
            have X106 := Ext.trans X94 hx103
            have X107 := Ext.trans X96 hx103
            have ho108 := ho92.ext hx103
            refine AL.val rfl (.inl rfl) (HV.as rfl) ?_
            refine AL.val rfl (.inl rfl) (HV.as rfl) ?_
            refine AL.val rfl (.inl rfl) (HV.as rfl) ?_
            refine AL.nx ?_
            refine AW.ret ?_
            refine ret_and ?_
            refine post_three rfl rfl rfl rfl ?_ (.inr rfl)
            have hC : fsC p l dg mo = 4 := fs_4 (by assumption) ⟨by omega, by omega⟩ (fun q => by have q1 := q.1; have q2 := q.2; have q3 := vS_len (by assumption : vS p l); omega); rw [hC]; rw [fsA_n (by omega), fsB_n (by omega)]; exact ⟨⟨_, _, rfl, (ho108.rd).okk (fun _ _ _ => trivial), (ho104.rd).okk (fun _ _ _ => trivial)⟩, X105⟩
          · -- else
            refine AW.skip ?_
            refine nrm_and ?_
            refine AW.rs ?_
            refine AL.val rfl (.inl rfl) (HV.mv rfl) ?_
            refine AL.val rfl (.inl rfl) (HV.mv rfl) ?_
            refine AL.val rfl (.inl rfl) (HV.mv rfl) ?_
            refine AL.val rfl (.inl rfl) (HV.mv rfl) ?_
            refine AL.val rfl (.inl rfl) (HV.mv rfl) ?_
            refine AL.val rfl (.inl rfl) (HV.sub rfl rfl (by omega)) ?_
            have hv : vS p l := by assumption
            have hl10 := vS_len hv
            have hd : (0 ≤ dg ∧ dg ≤ 6) ∧ 0 ≤ mo := ⟨by omega, by omega⟩
            have hd3 : mo ≤ 10 ∧ dg + 1 + 2 * mo ≤ (l.length : Int) := ⟨by omega, by omega⟩
            have hkl := nearK_len p l dg ((l.length : Int) - mo) hl10
            refine AL.w rfl (.inl rfl) (WV.call fn33 rfl (near5_ok (dg := dg) (ag := (l.length : Int) - mo) (hr.ext X32) hv hd.1)) ?_
            rintro v110 H111 ⟨hr113, hx112⟩
            have X114 := Ext.trans X32 hx112
            have X115 := Ext.refl H111
            refine AL.val rfl (.inl rfl) (HV.as rfl) ?_
            refine AL.nx ?_
            refine AW.seq ?_
            refine AW.rs ?_
            refine AL.val rfl (.inl rfl) (HV.mv rfl) ?_
            refine AL.val rfl (.inl rfl) (HV.len Tryz.underlying37 rfl hr113.isSl) ?_
            refine AL.val rfl (.inl rfl) (HV.eqi rfl rfl) ?_
            refine AL.nx ?_
            refine AW.ifd rfl (fun c116 => ?_) (fun c116 => ?_)
            · -- then
              refine AW.rs ?_
              have o117 := X114.bd
              have o118 := X115.bd
              refine AL.w rfl (.inl rfl) (WV.bsK (K := kI) (l := ([] : List Int)) (css := []) sl25 rfl rfl (by first | rfl | (simp [Instr.fill, Value.cells, kI, kB, kU, kU8, kS, Kd.sc]; done) | (simp [Instr.fill, Value.cells, kI, kB, kU, kU8, kS, Kd.sc, rng1, rng2, rng3, rng4, kP])) rfl segs_nil) ?_
              rintro v119 H120 ⟨hx121, ho122⟩
              have X123 := Ext.trans X114 hx121
              have X124 := Ext.trans X115 hx121
              have X126 := Ext.refl H120
              have o127 := X123.bd
              have o128 := X124.bd
              have o129 := X126.bd
              have a130 := ho122.ltb
              refine AL.w rfl (.inl rfl) (WV.bsK (K := kI) (l := ([] : List Int)) (css := []) sl25 rfl rfl (by first | rfl | (simp [Instr.fill, Value.cells, kI, kB, kU, kU8, kS, Kd.sc]; done) | (simp [Instr.fill, Value.cells, kI, kB, kU, kU8, kS, Kd.sc, rng1, rng2, rng3, rng4, kP])) rfl segs_nil) ?_
              rintro v131 H132 ⟨hx133, ho134⟩
              have X135 := Ext.trans X123 hx133
              have X136 := Ext.trans X124 hx133
              have X137 := Ext.trans X126 hx133
              have ho138 := ho122.ext hx133
              refine AL.val rfl (.inl rfl) (HV.as rfl) ?_
              refine AL.val rfl (.inl rfl) (HV.as rfl) ?_
              refine AL.val rfl (.inl rfl) (HV.as rfl) ?_
              refine AL.nx ?_
              refine AW.ret ?_
              refine ret_and ?_
              refine post_three rfl rfl rfl rfl ?_ (.inr rfl)
              have hC : fsC p l dg mo = 6 := fs_6 hv hd hd3 (by omega); rw [hC]; rw [fsA_n (by omega), fsB_n (by omega)]; exact ⟨⟨_, _, rfl, (ho138.rd).okk (fun _ _ _ => trivial), (ho134.rd).okk (fun _ _ _ => trivial)⟩, X135⟩
            · -- else
              refine AW.skip ?_
              refine nrm_and ?_
              refine AW.seq ?_
              refine AW.draw' [0, 1, 3, 0, 0, 0, 32, 96, 248, 511, 1023, 2047] mixed (by rfl) ?_
              refine Dr.read 0 _ 55 _ rfl rfl rfl rfl rfl (RV.of (by intro _ _ h; cases h) (.inl rfl) (fun _ xd => HV.mv rfl)) ?_
              obtain ⟨p140, z141, cs142, hz143, hK144, hC145, hP146⟩ := RdK.ix (q := 0) hr113 sl37 (by omega) (by omega)
              obtain ⟨v147, rfl, hr148⟩ := hK144
              have hm149 := hr148.max
              refine Dr.read 1 _ 56 _ rfl rfl rfl rfl rfl (RV.of (by intro _ _ h; cases h) (.inl rfl) (fun _ xd => hP146 rfl rfl)) ?_
              refine Dr.read 2 _ 57 _ rfl rfl rfl rfl rfl (RV.of (by intro _ _ h; cases h) (.inl rfl) (fun _ xd => HV.ld rfl va25 (rdc_ext xd (cells_first hC145 rfl)))) ?_
              refine Dr.read 3 _ 58 _ rfl rfl rfl rfl rfl (RV.of (by intro _ _ h; cases h) (.inl rfl) (fun _ xd => HV.mv rfl)) ?_
              refine Dr.read 4 _ 59 _ rfl rfl rfl rfl rfl (RV.of (by intro _ _ h; cases h) (.inl rfl) (fun _ xd => HV.mv rfl)) ?_
              refine Dr.read 5 _ 60 _ rfl rfl rfl rfl rfl (RV.of (by intro _ _ h; cases h) (.inl rfl) (fun _ xd => HV.mv rfl)) ?_
              obtain ⟨p150, z151, cs152, hz153, hK154, hC155, hP156⟩ := RdK.ix (q := 0) hr113 sl37 (by omega) (by omega)
              obtain ⟨v157, rfl, hr158⟩ := hK154
              have hm159 := hr158.max
              refine Dr.read 6 _ 61 _ rfl rfl rfl rfl rfl (RV.of (by intro _ _ h; cases h) (.inl rfl) (fun _ xd => hP156 rfl rfl)) ?_
              refine Dr.read 7 _ 62 _ rfl rfl rfl rfl rfl (RV.of (by intro _ _ h; cases h) (.inl rfl) (fun _ xd => HV.ld rfl va25 (rdc_ext xd (cells_first hC155 rfl)))) ?_
              have hz_57 := getq (j := 0) hz143 rfl
              have hz_61 := getq (j := 0) hz153 rfl
              have o160 := X114.bd
              have o161 := X115.bd
              refine Dr.eff 8 _ _ rfl (by intro d h; cases h; exact ⟨rfl, rfl⟩) rfl rfl rfl (EC.of (by intro _ _ h; cases h) (.inl rfl) (WV.call fn34 rfl (misses_ok (hr.ext X114) hr158 hv (near_in hv hd.1.1 _ (List.mem_of_getElem? hz153))))) (fun v H' h => .inl (h.1)) ?_
              rintro v162 H163 ⟨hx164, ho165⟩
              have X166 := Ext.trans X114 hx164
              have X167 := Ext.trans X115 hx164
              refine Dr.read 9 _ 8 _ rfl rfl rfl rfl rfl (RV.of (by intro _ _ h; cases h) (.inl rfl) (fun _ xd => HV.as rfl)) ?_
              refine Dr.read 10 _ 9 _ rfl rfl rfl rfl rfl (RV.of (by intro _ _ h; cases h) (.inl rfl) (fun _ xd => HV.as rfl)) ?_
              refine Dr.read 11 _ 10 _ rfl rfl rfl rfl rfl (RV.of (by intro _ _ h; cases h) (.inl rfl) (fun _ xd => HV.as rfl)) ?_
              refine Dr.fin rfl ?_
              refine nrm_and ?_
              refine AW.ret ?_
              refine post_three rfl rfl rfl rfl ?_ (.inr rfl)
              have hC : fsC p l dg mo = 0 := fs_0 hv hd hd3 (by omega); rw [hC]; rw [fsA_0 hC hz_57, fsB_0 hC hz_61]; exact ⟨⟨_, _, rfl, ((hr148.ext X167)).okk (fun _ _ _ => trivial), (ho165.rd).okk (fun _ _ _ => trivial)⟩, X166⟩
    · -- true
      have c33_ : (!decide (0 ≤ dg ∧ dg ≤ 6)) = true := by rw [decide_eq_false c33]; rfl
      rw [c33_]
      refine AL.off rfl rfl (by decide) rfl ?_
      refine AL.off rfl rfl (by decide) rfl ?_
      refine AL.val rfl (.inl rfl) (HV.pickT rfl rfl) ?_
      refine AL.nx ?_
      refine AW.cond rfl (fun _ => ?_) (fun h => by cases h)
      refine AW.rs ?_
      have X170 := Ext.refl H30
      have o171 := X32.bd
      have o172 := X170.bd
      refine AL.w rfl (.inl rfl) (WV.bsK (K := kI) (l := ([] : List Int)) (css := []) sl25 rfl rfl (by first | rfl | (simp [Instr.fill, Value.cells, kI, kB, kU, kU8, kS, Kd.sc]; done) | (simp [Instr.fill, Value.cells, kI, kB, kU, kU8, kS, Kd.sc, rng1, rng2, rng3, rng4, kP])) rfl segs_nil) ?_
      rintro v173 H174 ⟨hx175, ho176⟩
      have X177 := Ext.trans X32 hx175
      have X178 := Ext.trans X170 hx175
      have X180 := Ext.refl H174
      have o181 := X177.bd
      have o182 := X178.bd
      have o183 := X180.bd
      have a184 := ho176.ltb
      refine AL.w rfl (.inl rfl) (WV.bsK (K := kI) (l := ([] : List Int)) (css := []) sl25 rfl rfl (by first | rfl | (simp [Instr.fill, Value.cells, kI, kB, kU, kU8, kS, Kd.sc]; done) | (simp [Instr.fill, Value.cells, kI, kB, kU, kU8, kS, Kd.sc, rng1, rng2, rng3, rng4, kP])) rfl segs_nil) ?_
      rintro v185 H186 ⟨hx187, ho188⟩
      have X189 := Ext.trans X177 hx187
      have X190 := Ext.trans X178 hx187
      have X191 := Ext.trans X180 hx187
      have ho192 := ho176.ext hx187
      refine AL.val rfl (.inl rfl) (HV.as rfl) ?_
      refine AL.val rfl (.inl rfl) (HV.as rfl) ?_
      refine AL.val rfl (.inl rfl) (HV.as rfl) ?_
      refine AL.nx ?_
      refine AW.ret ?_
      refine ret_and ?_
      refine post_three rfl rfl rfl rfl ?_ (.inr rfl)
      have hC : fsC p l dg mo = 2 := fs_2 (by assumption) (fun q => by have q1 := q.1; have q2 := q.2; first | omega | contradiction); rw [hC]; rw [fsA_n (by omega), fsB_n (by omega)]; exact ⟨⟨_, _, rfl, (ho192.rd).okk (fun _ _ _ => trivial), (ho188.rd).okk (fun _ _ _ => trivial)⟩, X189⟩

set_option maxRecDepth 100000 in
theorem implFS_ok {v : Value} {l : List (Int × Int)} {ok : Nat → Prop} (hr : RdK (kP kI kI) W H ok v l) (p dg mo : Int) (hl : l.length ≤ 1048576) : ACalls Tryz.prog W 11 #[.int .i64 p, v, .int .i64 dg, .int .i64 mo] H (fun r H' => (∃ v1 v2 HM, r = .tuple #[v1, v2, .int .i64 (fsC p l dg mo)] ∧ OwnK kI 2 W H' (fun b => H.bd ≤ b ∧ b < HM.bd) v1 (fsA p l dg mo) ∧ OwnK kI 2 W H' (fun b => HM.bd ≤ b) v2 (fsB p l dg mo) ∧ Ext H HM ∧ Ext HM H') ∧ Ext H H') := by
  refine ACalls.of (args := [.int .i64 p, v, .int .i64 dg, .int .i64 mo]) Tryz.func11 rfl rfl ?_
  have X0 := Ext.refl H
  have hm1 := hr.max
  refine AW.rs ?_
  refine AL.val rfl (.inl rfl) (HV.as rfl) ?_
  refine AL.val rfl (.inl rfl) (HV.as rfl) ?_
  refine AL.val rfl (.inl rfl) (HV.as rfl) ?_
  refine AL.nx ?_
  refine AW.rs ?_
  refine AL.val rfl (.inl rfl) (HV.mv rfl) ?_
  refine AL.val rfl (.inl rfl) (HV.len Tryz.underlying28 rfl hr.isSl) ?_
  refine AL.val rfl (.inl rfl) (HV.as rfl) ?_
  refine AL.nx ?_
  refine AW.seq ?_
  refine AW.block ?_
  refine AW.rs ?_
  refine AL.val rfl (.inl rfl) (HV.mv rfl) ?_
  refine AL.val rfl (.inl rfl) (HV.mv rfl) ?_
  refine AL.w rfl (.inl rfl) (WV.call fn27 rfl (implVS_ok hr p (by omega))) ?_
  rintro _ H2 ⟨rfl, hx3⟩
  have X4 := Ext.trans X0 hx3
  refine AL.val rfl (.inl rfl) (HV.not rfl) ?_
  refine AL.val rfl (.inl rfl) (HV.as rfl) ?_
  refine AL.nx ?_
  refine AW.ifn rfl (fun c5 => ?_) (fun c5 => ?_)
  · -- then
    refine AW.rs ?_
    refine AL.val rfl (.inl rfl) (HV.as rfl) ?_
    refine AL.val rfl (.inl rfl) (HV.as rfl) ?_
    refine AL.val rfl (.inl rfl) (HV.as rfl) ?_
    refine AL.nx ?_
    refine AW.ret ?_
    refine ret_blk (ret_and ?_)
    refine post_three rfl rfl rfl rfl ?_ (.inr rfl)
    have hC : fsC p l dg mo = 1 := fs_1 c5; rw [hC]; rw [fsA_n (by omega), fsB_n (by omega)]; exact ⟨⟨_, _, _, rfl, OwnK.nil _, OwnK.nil _, Ext.refl _, X4⟩, X4⟩
  · -- else
    refine AW.rs ?_
    refine AL.val rfl (.inl rfl) (HV.mv rfl) ?_
    refine AL.w rfl (.inl rfl) (WV.call fn28 rfl (within_ok (W := W) dg 0 6)) ?_
    rintro _ H6 ⟨rfl, hx7⟩
    have X8 := Ext.trans X4 hx7
    refine AL.val rfl (.inl rfl) (HV.not rfl) ?_
    refine AL.val rfl (.inl rfl) (HV.mv rfl) ?_
    by_cases c9 : 0 ≤ dg ∧ dg ≤ 6
    · -- false
      have c9_ : (!decide (0 ≤ dg ∧ dg ≤ 6)) = false := by rw [decide_eq_true c9]; rfl
      rw [c9_]
      refine AL.val rfl (.inr ⟨_, _, _, rfl, rfl, rfl⟩) (HV.mv rfl) ?_
      refine AL.val rfl (.inr ⟨_, _, _, rfl, rfl, rfl⟩) (HV.lti rfl rfl) ?_
      refine AL.val rfl (.inl rfl) (HV.pickF rfl rfl) ?_
      refine AL.val rfl (.inl rfl) (HV.as rfl) ?_
      refine AL.nx ?_
      refine AW.ifd rfl (fun c10 => ?_) (fun c10 => ?_)
      · -- then
        refine AW.rs ?_
        refine AL.val rfl (.inl rfl) (HV.as rfl) ?_
        refine AL.val rfl (.inl rfl) (HV.as rfl) ?_
        refine AL.val rfl (.inl rfl) (HV.as rfl) ?_
        refine AL.nx ?_
        refine AW.ret ?_
        refine ret_blk (ret_and ?_)
        refine post_three rfl rfl rfl rfl ?_ (.inr rfl)
        have hC : fsC p l dg mo = 2 := fs_2 (by assumption) (fun q => by have q1 := q.1; have q2 := q.2; first | omega | contradiction); rw [hC]; rw [fsA_n (by omega), fsB_n (by omega)]; exact ⟨⟨_, _, _, rfl, OwnK.nil _, OwnK.nil _, Ext.refl _, X8⟩, X8⟩
      · -- else
        refine AW.rs ?_
        refine AL.val rfl (.inl rfl) (HV.mv rfl) ?_
        refine AL.val rfl (.inl rfl) (HV.mv rfl) ?_
        refine AL.val rfl (.inl rfl) (HV.gti rfl rfl) ?_
        refine AL.val rfl (.inl rfl) (HV.mv rfl) ?_
        by_cases c11 : mo > (l.length : Int)
        · -- true
          have c11_ : decide (mo > (l.length : Int)) = true := decide_eq_true c11
          rw [c11_]
          refine AL.off rfl rfl (by decide) rfl ?_
          refine AL.off rfl rfl (by decide) rfl ?_
          refine AL.off rfl rfl (by decide) rfl ?_
          refine AL.off rfl rfl (by decide) rfl ?_
          refine AL.off rfl rfl (by decide) rfl ?_
          refine AL.off rfl rfl (by decide) rfl ?_
          refine AL.off rfl rfl (by decide) rfl ?_
          refine AL.val rfl (.inl rfl) (HV.pickT rfl rfl) ?_
          refine AL.val rfl (.inl rfl) (HV.as rfl) ?_
          refine AL.nx ?_
          refine AW.cond rfl (fun _ => ?_) (fun h => by cases h)
          refine AW.rs ?_
          refine AL.val rfl (.inl rfl) (HV.as rfl) ?_
          refine AL.val rfl (.inl rfl) (HV.as rfl) ?_
          refine AL.val rfl (.inl rfl) (HV.as rfl) ?_
          refine AL.nx ?_
          refine AW.ret ?_
          refine ret_blk (ret_and ?_)
          refine post_three rfl rfl rfl rfl ?_ (.inr rfl)
          have hC : fsC p l dg mo = 4 := fs_4 (by assumption) ⟨by omega, by omega⟩ (fun q => by have q1 := q.1; have q2 := q.2; have q3 := vS_len (by assumption : vS p l); omega); rw [hC]; rw [fsA_n (by omega), fsB_n (by omega)]; exact ⟨⟨_, _, _, rfl, OwnK.nil _, OwnK.nil _, Ext.refl _, X8⟩, X8⟩
        · -- false
          have c11_ : decide (mo > (l.length : Int)) = false := decide_eq_false c11
          rw [c11_]
          refine AL.val rfl (.inr ⟨_, _, _, rfl, rfl, rfl⟩) (HV.mv rfl) ?_
          refine AL.val rfl (.inr ⟨_, _, _, rfl, rfl, rfl⟩) (HV.mv rfl) ?_
          refine AL.val rfl (.inr ⟨_, _, _, rfl, rfl, rfl⟩) (HV.add rfl rfl (by omega)) ?_
          refine AL.val rfl (.inr ⟨_, _, _, rfl, rfl, rfl⟩) (HV.mv rfl) ?_
          refine AL.val rfl (.inr ⟨_, _, _, rfl, rfl, rfl⟩) (HV.mul rfl rfl (by omega)) ?_
          refine AL.val rfl (.inr ⟨_, _, _, rfl, rfl, rfl⟩) (HV.add rfl rfl (by omega)) ?_
          refine AL.val rfl (.inr ⟨_, _, _, rfl, rfl, rfl⟩) (HV.lti rfl rfl) ?_
          refine AL.val rfl (.inl rfl) (HV.pickF rfl rfl) ?_
          refine AL.val rfl (.inl rfl) (HV.as rfl) ?_
          refine AL.nx ?_
          refine AW.ifd rfl (fun c13 => ?_) (fun c13 => ?_)
          · -- then
            refine AW.rs ?_
            refine AL.val rfl (.inl rfl) (HV.as rfl) ?_
            refine AL.val rfl (.inl rfl) (HV.as rfl) ?_
            refine AL.val rfl (.inl rfl) (HV.as rfl) ?_
            refine AL.nx ?_
            refine AW.ret ?_
            refine ret_blk (ret_and ?_)
            refine post_three rfl rfl rfl rfl ?_ (.inr rfl)
            have hC : fsC p l dg mo = 4 := fs_4 (by assumption) ⟨by omega, by omega⟩ (fun q => by have q1 := q.1; have q2 := q.2; have q3 := vS_len (by assumption : vS p l); omega); rw [hC]; rw [fsA_n (by omega), fsB_n (by omega)]; exact ⟨⟨_, _, _, rfl, OwnK.nil _, OwnK.nil _, Ext.refl _, X8⟩, X8⟩
          · -- else
            refine AW.skip ?_
            refine nrm_blk (nrm_and ?_)
            refine AW.rs ?_
            refine AL.val rfl (.inl rfl) (HV.mv rfl) ?_
            refine AL.val rfl (.inl rfl) (HV.mv rfl) ?_
            refine AL.val rfl (.inl rfl) (HV.mv rfl) ?_
            refine AL.val rfl (.inl rfl) (HV.mv rfl) ?_
            refine AL.val rfl (.inl rfl) (HV.mv rfl) ?_
            refine AL.val rfl (.inl rfl) (HV.sub rfl rfl (by omega)) ?_
            have hv : vS p l := by assumption
            have hl10 := vS_len hv
            have hd : (0 ≤ dg ∧ dg ≤ 6) ∧ 0 ≤ mo := ⟨by omega, by omega⟩
            have hd3 : mo ≤ 10 ∧ dg + 1 + 2 * mo ≤ (l.length : Int) := ⟨by omega, by omega⟩
            have hkl := nearK_len p l dg ((l.length : Int) - mo) hl10
            have X14 := Ext.refl H6
            have o15 := X8.bd
            have o16 := X14.bd
            refine AL.w rfl (.inl rfl) (WV.call fn29 rfl (nearI_ok (dg := dg) (ag := (l.length : Int) - mo) (hr.ext X8) hv hd.1)) ?_
            rintro v17 H18 ⟨hx19, ho20⟩
            have X21 := Ext.trans X8 hx19
            have X22 := Ext.trans X14 hx19
            have X23 := Ext.refl H18
            refine AL.val rfl (.inl rfl) (HV.as rfl) ?_
            refine AL.nx ?_
            refine AW.seq ?_
            refine AW.rs ?_
            refine AL.val rfl (.inl rfl) (HV.mv rfl) ?_
            refine AL.val rfl (.inl rfl) (HV.len Tryz.underlying37 rfl (rd_ofO ho20.rd).isSl) ?_
            refine AL.val rfl (.inl rfl) (HV.eqi rfl rfl) ?_
            refine AL.nx ?_
            refine AW.ifd rfl (fun c25 => ?_) (fun c25 => ?_)
            · -- then
              refine AW.rs ?_
              refine AL.val rfl (.inl rfl) (HV.as rfl) ?_
              refine AL.val rfl (.inl rfl) (HV.as rfl) ?_
              refine AL.val rfl (.inl rfl) (HV.as rfl) ?_
              refine AL.nx ?_
              refine AW.ret ?_
              refine ret_and ?_
              refine post_three rfl rfl rfl rfl ?_ (.inr rfl)
              have hC : fsC p l dg mo = 6 := fs_6 hv hd hd3 (by omega); rw [hC]; rw [fsA_n (by omega), fsB_n (by omega)]; exact ⟨⟨_, _, _, rfl, OwnK.nil _, OwnK.nil _, Ext.refl _, X21⟩, X21⟩
            · -- else
              refine AW.skip ?_
              refine nrm_and ?_
              refine AW.seq ?_
              refine AW.draw' [0, 1, 3, 0, 0, 0, 32, 96, 248, 511, 1023, 2047] mixed (by rfl) ?_
              refine Dr.read 0 _ 51 _ rfl rfl rfl rfl rfl (RV.of (by intro _ _ h; cases h) (.inl rfl) (fun _ xd => HV.mv rfl)) ?_
              obtain ⟨g26, z27, cs28, hz29, hK30, hC31, hg32, hP33⟩ := OwnK.ix (q := 0) ho20.own sl37 (by omega) (by omega)
              obtain ⟨v34, rfl, hr35⟩ := hK30
              have hO36 := hr35
              replace hr35 := hr35.rd
              have hm37 := hr35.max
              refine Dr.read 1 _ 52 _ rfl rfl rfl rfl rfl (RV.of (by intro _ _ h; cases h) (.inl rfl) (fun _ xd => hP33 rfl rfl)) ?_
              refine Dr.read 2 _ 53 _ rfl rfl rfl rfl rfl (RV.of (by intro _ _ h; cases h) (.inl rfl) (fun _ xd => HV.ld rfl va25 (rdc_ext xd (cells_first hC31 rfl)))) ?_
              refine Dr.read 3 _ 54 _ rfl rfl rfl rfl rfl (RV.of (by intro _ _ h; cases h) (.inl rfl) (fun _ xd => HV.mv rfl)) ?_
              refine Dr.read 4 _ 55 _ rfl rfl rfl rfl rfl (RV.of (by intro _ _ h; cases h) (.inl rfl) (fun _ xd => HV.mv rfl)) ?_
              refine Dr.read 5 _ 56 _ rfl rfl rfl rfl rfl (RV.of (by intro _ _ h; cases h) (.inl rfl) (fun _ xd => HV.mv rfl)) ?_
              obtain ⟨g38, z39, cs40, hz41, hK42, hC43, hg44, hP45⟩ := OwnK.ix (q := 0) ho20.own sl37 (by omega) (by omega)
              obtain ⟨v46, rfl, hr47⟩ := hK42
              have hO48 := hr47
              replace hr47 := hr47.rd
              have hm49 := hr47.max
              refine Dr.read 6 _ 57 _ rfl rfl rfl rfl rfl (RV.of (by intro _ _ h; cases h) (.inl rfl) (fun _ xd => hP45 rfl rfl)) ?_
              refine Dr.read 7 _ 58 _ rfl rfl rfl rfl rfl (RV.of (by intro _ _ h; cases h) (.inl rfl) (fun _ xd => HV.ld rfl va25 (rdc_ext xd (cells_first hC43 rfl)))) ?_
              have hz_53 := getq (j := 0) hz29 rfl
              have hz_57 := getq (j := 0) hz41 rfl
              have o50 := X21.bd
              have o51 := X22.bd
              have o52 := X23.bd
              have a53 := ho20.ltb
              have s54 := ho20.lo
              refine Dr.eff 8 _ _ rfl (by intro d h; cases h; exact ⟨rfl, rfl⟩) rfl rfl rfl (EC.of (by intro _ _ h; cases h) (.inl rfl) (WV.call fn30 rfl (wrong_ok (hr.ext X21) hr47 hv (near_in hv hd.1.1 _ (List.mem_of_getElem? hz41))))) (fun v H' h => .inl (h.1)) ?_
              rintro v55 H56 ⟨hx57, ho58⟩
              have X59 := Ext.trans X21 hx57
              have X60 := Ext.trans X22 hx57
              have X61 := Ext.trans X23 hx57
              have s63 := s54.ext hx57
              have ho62 := ho20.ext hx57
              refine Dr.read 9 _ 8 _ rfl rfl rfl rfl rfl (RV.of (by intro _ _ h; cases h) (.inl rfl) (fun _ xd => HV.as rfl)) ?_
              refine Dr.read 10 _ 9 _ rfl rfl rfl rfl rfl (RV.of (by intro _ _ h; cases h) (.inl rfl) (fun _ xd => HV.as rfl)) ?_
              refine Dr.read 11 _ 10 _ rfl rfl rfl rfl rfl (RV.of (by intro _ _ h; cases h) (.inl rfl) (fun _ xd => HV.as rfl)) ?_
              refine Dr.fin rfl ?_
              refine nrm_and ?_
              refine AW.ret ?_
              refine post_three rfl rfl rfl rfl ?_ (.inr rfl)
              have hC : fsC p l dg mo = 0 := fs_0 hv hd hd3 (by omega); rw [hC]; rw [fsA_0 hC hz_53, fsB_0 hC hz_57]; exact ⟨⟨_, _, H18, rfl, (hO36.okk (fun b hb hlt => ⟨Nat.le_trans o15 hb, hlt⟩)).ext X61, ho58, X21, X61⟩, X59⟩
    · -- true
      have c9_ : (!decide (0 ≤ dg ∧ dg ≤ 6)) = true := by rw [decide_eq_false c9]; rfl
      rw [c9_]
      refine AL.off rfl rfl (by decide) rfl ?_
      refine AL.off rfl rfl (by decide) rfl ?_
      refine AL.val rfl (.inl rfl) (HV.pickT rfl rfl) ?_
      refine AL.val rfl (.inl rfl) (HV.as rfl) ?_
      refine AL.nx ?_
      refine AW.cond rfl (fun _ => ?_) (fun h => by cases h)
      refine AW.rs ?_
      refine AL.val rfl (.inl rfl) (HV.as rfl) ?_
      refine AL.val rfl (.inl rfl) (HV.as rfl) ?_
      refine AL.val rfl (.inl rfl) (HV.as rfl) ?_
      refine AL.nx ?_
      refine AW.ret ?_
      refine ret_blk (ret_and ?_)
      refine post_three rfl rfl rfl rfl ?_ (.inr rfl)
      have hC : fsC p l dg mo = 2 := fs_2 (by assumption) (fun q => by have q1 := q.1; have q2 := q.2; first | omega | contradiction); rw [hC]; rw [fsA_n (by omega), fsB_n (by omega)]; exact ⟨⟨_, _, _, rfl, OwnK.nil _, OwnK.nil _, Ext.refl _, X8⟩, X8⟩
end Go.Proofs.YtbjcgcililpfdaaGreat.VC

