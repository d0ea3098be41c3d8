/- Walks. -/
import Derived.Test.YtbjcgcililpfdaaGreatZCU
set_option linter.unusedVariables false
set_option linter.unusedSimpArgs false
namespace Go.Proofs.YtbjcgcililpfdaaGreat.VC
open Go Go.RowKit
variable {W : World} {H : Hp}

open VI (throughM addC addAt stripM cutTo mulLin mulAt byAt thrFrom)
set_option maxRecDepth 100000 in
theorem stripC_ok {v : Value} {l : List Int} {ok : Nat → Prop} (hr : RdK kI W H ok v l) : ACalls Tryz.prog W 70 #[v] H (fun r H' => r = cutv v (stripM l).length ∧ Ext H H') := by
  refine ACalls.of (args := [v]) Tryz.func70 rfl rfl ?_
  have X0 := Ext.refl H
  have hm1 := hr.max
  refine AW.rs ?_
  refine AL.val rfl (.inl rfl) (HV.as rfl) ?_
  refine AL.nx ?_
  refine AW.seq ?_
  refine AW.block ?_
  refine AW.loop (σ := Nat × Value × List Int) (fun ⟨i, vv, m⟩ => [(2, (.slice none 0 0)), (0, vv)]) (fun ⟨i, vv, m⟩ H' => Ext H H' ∧ i ≤ l.length ∧ vv = cutv v i ∧ m = l.take i ∧ cutTo l i = stripM l ∧ RdK kI W H' (fun _ => True) vv m ∧ True) (fun ⟨i, vv, m⟩ => i) (l.length, v, l) ⟨X0, Nat.le_refl _, (cutv_id hr.isSl).symm, List.take_length.symm, rfl, hr.okk (fun _ _ _ => trivial), trivial⟩ ⟨rfl, rfl, trivial⟩ ?_
  rintro ⟨i, vv, m⟩ H2 ⟨X3, hi, hvv, hm, hcut, hrv, _⟩
  have X4 := Ext.refl H2
  have hml : m.length = i := by rw [hm, List.length_take]; omega
  refine AW.seq ?_
  refine AW.rs ?_
  refine AL.val rfl (.inl rfl) (HV.mv rfl) ?_
  refine AL.val rfl (.inl rfl) (HV.len Tryz.underlying25 rfl hrv.isSl) ?_
  refine AL.val rfl (.inl rfl) (HV.gti rfl rfl) ?_
  refine AL.val rfl (.inl rfl) (HV.mv rfl) ?_
  by_cases c5 : (m.length : Int) > 0
  · -- true
    have c5_ : decide ((m.length : Int) > 0) = true := decide_eq_true c5
    rw [c5_]
    refine AL.val rfl (.inr ⟨_, _, _, rfl, rfl, rfl⟩) (HV.mv rfl) ?_
    refine AL.val rfl (.inr ⟨_, _, _, rfl, rfl, rfl⟩) (HV.mv rfl) ?_
    refine AL.val rfl (.inr ⟨_, _, _, rfl, rfl, rfl⟩) (HV.len Tryz.underlying25 rfl hrv.isSl) ?_
    refine AL.val rfl (.inr ⟨_, _, _, rfl, rfl, rfl⟩) (HV.sub rfl rfl (by omega)) ?_
    obtain ⟨p6, z7, cs8, hz9, hK10, hC11, hP12⟩ := RdK.ix (q := (m.length : Int) - 1) hrv sl25 (by omega) (by omega)
    obtain rfl : cs8 = [.int .i64 z7] := hK10
    refine AL.val rfl (.inr ⟨_, _, _, rfl, rfl, rfl⟩) (hP12 rfl rfl) ?_
    refine AL.val rfl (.inr ⟨_, _, _, rfl, rfl, rfl⟩) (HV.ld rfl va2 (cells_first hC11 rfl)) ?_
    refine AL.val rfl (.inr ⟨_, _, _, rfl, rfl, rfl⟩) (HV.eqi rfl rfl) ?_
    refine AL.val rfl (.inl rfl) (HV.pickT rfl rfl) ?_
    refine AL.nx ?_
    refine AW.ifd rfl (fun c13 => ?_) (fun c13 => ?_)
    · -- then
      refine AW.skip ?_
      refine nrm_and ?_
      refine AW.block ?_
      refine AW.reg ?_
      refine AL.val rfl (.inl rfl) (HV.mv rfl) ?_
      refine AL.val rfl (.inl rfl) (HV.mv rfl) ?_
      refine AL.val rfl (.inl rfl) (HV.len Tryz.underlying25 rfl hrv.isSl) ?_
      refine AL.val rfl (.inl rfl) (HV.sub rfl rfl (by omega)) ?_
      obtain ⟨hr14, hP15⟩ := RdK.cutC (q := (m.length : Int) - 1) hrv sl25 (by omega) (by omega)
      refine AL.val rfl (.inl rfl) (hP15 rfl rfl) ?_
      refine AL.val rfl (.inl rfl) (HV.as rfl) ?_
      refine AL.nil ?_
      refine nrm_blk (nrm_and ?_)
      have hz11_ : m[i - 1]? = some z7 := by have q := hz9; rwa [show ((m.length : Int) - 1).toNat = i - 1 by omega] at q
      rw [hm] at hz11_
      have hc0 := cut_succ (l := l) (i := i - 1) ((take_getD hz11_).trans (by omega))
      rw [show i - 1 + 1 = i by omega] at hc0
      exact ⟨(i - 1, (cutv vv ((m.length : Int) - 1 : Int).toNat), (m.take ((m.length : Int) - 1 : Int).toNat)), ⟨X3, by omega, by rw [hvv, cutv_cut, show ((m.length : Int) - 1).toNat = i - 1 by omega], by rw [show ((m.length : Int) - 1).toNat = i - 1 by omega, hm, List.take_take, show min (i - 1) i = i - 1 by omega], hc0.symm.trans hcut, (hr14).okk (fun _ _ _ => trivial), trivial⟩, by first | omega | (dsimp only; omega), ⟨rfl, rfl, trivial⟩⟩
    · -- else
      refine AW.exit ?_
      refine ex_and (ex_and (ex_blk ?_))
      refine nrm_and ?_
      refine AW.rs ?_
      refine AL.val rfl (.inl rfl) (HV.mv rfl) ?_
      refine AL.val rfl (.inl rfl) (HV.as rfl) ?_
      refine AL.nx ?_
      refine AW.ret ?_
      refine post_one rfl rfl ?_ (.inr rfl)
      have hz11_ : m[i - 1]? = some z7 := (by have q := hz9; rwa [show ((m.length : Int) - 1).toNat = i - 1 by omega] at q); rw [hm] at hz11_; exact ⟨by have e : stripM l = m := (by rw [hm, ← hcut]; exact cut_stop (.inr (by rw [take_getD hz11_]; assumption))); rw [e, hm, List.length_take, show min i l.length = i by omega]; exact hvv, X3⟩
  · -- false
    have c5_ : decide ((m.length : Int) > 0) = false := decide_eq_false c5
    rw [c5_]
    refine AL.off rfl rfl (by decide) rfl ?_
    refine AL.off rfl rfl (by decide) rfl ?_
    refine AL.off rfl rfl (by decide) rfl ?_
    refine AL.off rfl rfl (by decide) rfl ?_
    refine AL.off rfl rfl (by decide) rfl ?_
    refine AL.off rfl rfl (by decide) rfl ?_
    refine AL.off rfl rfl (by decide) rfl ?_
    refine AL.val rfl (.inl rfl) (HV.pickF rfl rfl) ?_
    refine AL.nx ?_
    refine AW.cond rfl (fun h => by cases h) (fun _ => ?_)
    refine AW.exit ?_
    refine ex_and (ex_and (ex_blk ?_))
    refine nrm_and ?_
    refine AW.rs ?_
    refine AL.val rfl (.inl rfl) (HV.mv rfl) ?_
    refine AL.val rfl (.inl rfl) (HV.as rfl) ?_
    refine AL.nx ?_
    refine AW.ret ?_
    refine post_one rfl rfl ?_ (.inr rfl)
    exact ⟨by have e : stripM l = m := (by rw [hm, ← hcut]; exact cut_stop (.inl (by omega))); rw [e, hm, List.length_take, show min i l.length = i by omega]; exact hvv, X3⟩

set_option maxRecDepth 100000 in
theorem throughO_ok {v : Value} {l : List (Int × Int)} {ok : Nat → Prop} (hr : RdK (kP kI kI) W H ok v l) {p : Int} (hv : vS p l) : ACalls Tryz.prog W 49 #[.int .i64 p, v] H (fun r H' => Ext H H' ∧ OwnK kI 2 W H' (fun b => H.bd ≤ b) r (throughM p (l.map Prod.fst) (l.map Prod.snd))) := by
  refine ACalls.of (args := [.int .i64 p, v]) Tryz.func49 rfl rfl ?_
  have X0 := Ext.refl H
  have hm1 := hr.max
  have hp := hv.1.1
  have hq := isPr_of hv.1
  have hl10 := vS_len hv
  refine AW.rs ?_
  refine AL.val rfl (.inl rfl) (HV.as rfl) ?_
  refine AL.nx ?_
  refine AW.rs ?_
  have o2 := X0.bd
  refine AL.w rfl (.inl rfl) (WV.bsK (K := kI) (l := ([] : List Int)) (css := []) sl25 rfl rfl (by first | rfl | (simp [Instr.fill, Value.cells, kI, kB, kU, kU8, kS, Kd.sc]; done) | (simp [Instr.fill, Value.cells, kI, kB, kU, kU8, kS, Kd.sc, rng1, rng2, rng3, rng4, kP])) rfl segs_nil) ?_
  rintro v3 H4 ⟨hx5, ho6⟩
  have X7 := Ext.trans X0 hx5
  refine AL.val rfl (.inl rfl) (HV.as rfl) ?_
  refine AL.nx ?_
  refine AW.seq ?_
  refine AW.rs ?_
  refine AL.val rfl (.inl rfl) (HV.mv rfl) ?_
  refine AL.val rfl (.inl rfl) (HV.len Tryz.underlying28 rfl hr.isSl) ?_
  refine AL.val rfl (.inl rfl) (HV.mv rfl) ?_
  refine AL.nx ?_
  refine AW.block ?_
  refine AW.loop (σ := Nat × Value × List Int) (fun ⟨i, vo, o⟩ => [(0, .int .i64 p), (1, v), (4, (.slice none 0 0)), (14, v), (15, .int .i64 (l.length : Int)), (5, vo), (16, .int .i64 (i : Int))]) (fun ⟨i, vo, o⟩ H' => Ext H H' ∧ i ≤ l.length ∧ o = thr p l i ∧ OwnK kI 2 W H' (fun b => H.bd ≤ b) vo o ∧ True) (fun ⟨i, vo, o⟩ => l.length - i) (0, v3, []) ⟨X7, Nat.zero_le _, rfl, ho6.okk (fun b hb _ => Nat.le_trans o2 hb), trivial⟩ ⟨rfl, rfl, rfl, rfl, rfl, rfl, rfl, trivial⟩ ?_
  rintro ⟨i, vo, o⟩ H9 ⟨X10, hi, hov, hro, _⟩
  have X11 := Ext.refl H9
  refine AW.rs ?_
  refine AL.val rfl (.inl rfl) (HV.lti rfl rfl) ?_
  refine AL.nx ?_
  refine AW.seq ?_
  refine AW.ifd rfl (fun c12 => ?_) (fun c12 => ?_)
  · -- then
    refine AW.skip ?_
    refine nrm_and ?_
    refine AW.seq ?_
    refine AW.block ?_
    refine AW.rs ?_
    refine AL.val rfl (.inl rfl) (HV.mv rfl) ?_
    obtain ⟨p13, z14, cs15, hz16, hK17, hC18, hP19⟩ := RdK.ix (q := (i : Int)) hr sl28 (by omega) (by omega)
    obtain ⟨cs20, cs21, rfl, hK22, hK23⟩ := hK17
    obtain rfl : cs20 = [.int .i64 z14.1] := hK22
    obtain rfl : cs21 = [.int .i64 z14.2] := hK23
    refine AL.val rfl (.inl rfl) (hP19 rfl rfl) ?_
    refine AL.val rfl (.inl rfl) (HV.lda (cs := [.int .i64 z14.1, .int .i64 z14.2]) rfl va36 (hC18.ext X10)) ?_
    refine AL.w rfl (.inl rfl) (WV.al ze36 rfl) ?_
    rintro _ H25 ⟨b24, rfl, hx26, hn27, hb28⟩
    have o29 := Nat.le_trans X10.bd hn27
    have o30 := Nat.le_trans X11.bd hn27
    have X31 := Ext.trans X10 hx26
    have X32 := Ext.trans X11 hx26
    have X33 := Ext.refl H25
    refine AL.val rfl (.inl rfl) (HV.as rfl) ?_
    refine AL.w0 (.inl rfl) (WV.st rfl rfl va36 rfl hb28 (Nat.le_of_ble_eq_true rfl) (one_cons rfl (one_cons rfl one_nil))) ?_
    rintro _ H34 ⟨hx35, hb36⟩
    have X37 := Ext.thru X31 hx35 (fun z_ hz_ => by rw [hz_]; exact o29)
    have X38 := Ext.thru X32 hx35 (fun z_ hz_ => by rw [hz_]; exact o30)
    have q40 := Nat.le_trans X33.bd hx35.bd
    have hb41 : At W H34 b24 ⟨36, [.int .i64 z14.1, .int .i64 z14.2], 2⟩ := hb36
    refine AL.nx ?_
    refine AW.rs ?_
    have X42 := Ext.refl H34
    have y43 := hb41.lt
    have o44 := X37.bd
    have o45 := X38.bd
    have o46 := X42.bd
    refine AL.w rfl (.inl rfl) (WV.bsK (K := kI) (l := ([1] : List Int)) (css := [[.int .i64 1]]) sl25 rfl rfl (by first | rfl | (simp [Instr.fill, Value.cells, kI, kB, kU, kU8, kS, Kd.sc]; done) | (simp [Instr.fill, Value.cells, kI, kB, kU, kU8, kS, Kd.sc, rng1, rng2, rng3, rng4, kP])) rfl (segs_cons rfl segs_nil)) ?_
    rintro v47 H48 ⟨hx49, ho50⟩
    have q51 := Nat.le_trans q40 hx49.bd
    have X52 := Ext.trans X37 hx49
    have X53 := Ext.trans X38 hx49
    have X54 := Ext.trans X42 hx49
    have hb55 := hb41.ext hx49
    refine AL.val rfl (.inl rfl) (HV.as rfl) ?_
    refine AL.val rfl (.inl rfl) (HV.as rfl) ?_
    refine AL.nx ?_
    refine AW.seq ?_
    refine AW.rs ?_
    refine AL.val rfl (.inl rfl) (HV.mv rfl) ?_
    refine AL.val rfl (.inl rfl) (HV.len Tryz.underlying28 rfl hr.isSl) ?_
    refine AL.val rfl (.inl rfl) (HV.mv rfl) ?_
    refine AL.nx ?_
    refine AW.block ?_
    have hz19_ := hz16
    have ho57 := ho50.narrow (ok' := fun b => H34.bd ≤ b ∧ some b = v47.ownBlock) kI_flat (fun b q => ⟨(ho50.blk b q).1, q⟩)
    refine AW.loop (σ := Nat × Value × List Int × Int) (fun ⟨j, vk, k, d⟩ => [(0, .int .i64 p), (1, v), (4, (.slice none 0 0)), (5, vo), (6, .int .i64 (i : Int)), (7, .pointer (some ⟨b24, 0, none⟩)), (14, v), (15, .int .i64 (l.length : Int)), (16, .int .i64 (i : Int)), (17, .bool (decide ((i : Int) < (l.length : Int)))), (18, .int .i64 (i : Int)), (19, .pointer (some p13)), (20, .agg #[.int .i64 z14.1, .int .i64 z14.2]), (21, v47), (22, v), (23, .int .i64 (l.length : Int)), (8, vk), (9, .int .i64 d), (24, .int .i64 (j : Int))]) (fun ⟨j, vk, k, d⟩ H' => Ext H H' ∧ Ext H9 H' ∧ Ext H34 H' ∧ At W H' b24 ⟨36, [.int .i64 z14.1, .int .i64 z14.2], 2⟩ ∧ j ≤ l.length ∧ k = prt p l i j ∧ d = den p l i j ∧ OwnK kI 2 W H' (fun b => H34.bd ≤ b ∧ some b = vk.ownBlock) vk k ∧ True) (fun ⟨j, vk, k, d⟩ => l.length - j) (0, v47, [1], 1) ⟨X52, X53, X54, hb55, Nat.zero_le _, rfl, rfl, ho57, trivial⟩ ⟨rfl, rfl, rfl, rfl, rfl, rfl, rfl, rfl, rfl, rfl, rfl, rfl, rfl, rfl, rfl, rfl, rfl, rfl, rfl, trivial⟩ ?_
    rintro ⟨j, vk, k, d⟩ H58 ⟨X59, X60, X61, hb62, hj, hkp, hdp, hoL, _⟩
    have hkl := prt_len p l i j
    rw [← hkp] at hkl
    have hdb := den_in hv (show i < l.length by omega) j hj
    rw [← hdp] at hdb
    have hke : elems p k := by rw [hkp]; exact prt_in (by omega) l i j
    refine AW.rs ?_
    refine AL.val rfl (.inl rfl) (HV.lti rfl rfl) ?_
    refine AL.nx ?_
    refine AW.seq ?_
    refine AW.ifd rfl (fun c63 => ?_) (fun c63 => ?_)
    · -- then
      refine AW.skip ?_
      refine nrm_and ?_
      refine AW.seq ?_
      refine AW.block ?_
      refine AW.rs ?_
      refine AL.val rfl (.inl rfl) (HV.mv rfl) ?_
      obtain ⟨p64, z65, cs66, hz67, hK68, hC69, hP70⟩ := RdK.ix (q := (j : Int)) hr sl28 (by omega) (by omega)
      obtain ⟨cs71, cs72, rfl, hK73, hK74⟩ := hK68
      obtain rfl : cs71 = [.int .i64 z65.1] := hK73
      obtain rfl : cs72 = [.int .i64 z65.2] := hK74
      refine AL.val rfl (.inl rfl) (hP70 rfl rfl) ?_
      refine AL.val rfl (.inl rfl) (HV.lda (cs := [.int .i64 z65.1, .int .i64 z65.2]) rfl va36 (hC69.ext X59)) ?_
      have a80 := hoL.ltb
      refine AL.w rfl (.inl rfl) (WV.al ze36 rfl) ?_
      rintro _ H76 ⟨b75, rfl, hx77, hn78, hb79⟩
      have o81 := Nat.le_trans X59.bd hn78
      have o82 := Nat.le_trans X60.bd hn78
      have o83 := Nat.le_trans X61.bd hn78
      have a84 : ∀ b', some b' = vk.ownBlock → b' = b75 → False := fun b' h1 h2 => by have x1 := a80 b' h1; have x2 := hn78; omega
      have ne85 : b24 ≠ b75 := by have := hb62.lt; omega
      have X86 := Ext.trans X59 hx77
      have X87 := Ext.trans X60 hx77
      have X88 := Ext.trans X61 hx77
      have ho89 := hoL.ext hx77
      have hb90 := hb62.ext hx77
      have X91 := Ext.refl H76
      refine AL.val rfl (.inl rfl) (HV.as rfl) ?_
      refine AL.w0 (.inl rfl) (WV.st rfl rfl va36 rfl hb79 (Nat.le_of_ble_eq_true rfl) (one_cons rfl (one_cons rfl one_nil))) ?_
      rintro _ H92 ⟨hx93, hb94⟩
      have X95 := Ext.thru X86 hx93 (fun z_ hz_ => by rw [hz_]; exact o81)
      have X96 := Ext.thru X87 hx93 (fun z_ hz_ => by rw [hz_]; exact o82)
      have X97 := Ext.thru X88 hx93 (fun z_ hz_ => by rw [hz_]; exact o83)
      have q99 := Nat.le_trans X91.bd hx93.bd
      have ho100 := ho89.but hx93 (fun b hb _ e => a84 b hb.2 e) (fun z_ hz_ => by rw [hz_]; exact hb79.w)
      have hb101 := hb90.but hx93 ne85
      have hb102 : At W H92 b75 ⟨36, [.int .i64 z65.1, .int .i64 z65.2], 2⟩ := hb94
      refine AL.nx ?_
      refine AW.seq ?_
      refine AW.rs ?_
      refine AL.val rfl (.inl rfl) (HV.mv rfl) ?_
      refine AL.val rfl (.inl rfl) (HV.mv rfl) ?_
      refine AL.val rfl (.inl rfl) (HV.eqi rfl rfl) ?_
      refine AL.nx ?_
      refine AW.ifd rfl (fun c103 => ?_) (fun c103 => ?_)
      · -- then
        refine AW.exit ?_
        refine ex_and (ex_blk ?_)
        refine nrm_and ?_
        refine AW.reg ?_
        refine AL.val rfl (.inl rfl) (HV.add rfl rfl (by omega)) ?_
        refine AL.val rfl (.inl rfl) (HV.mv rfl) ?_
        refine AL.nil ?_
        refine nrm_and ?_
        exact ⟨(j + 1, vk, k, d), ⟨X95, X96, X97, hb101, by omega, by rw [prt_succ, if_pos (by omega)]; exact hkp, by rw [den_succ, if_pos (by omega)]; exact hdp, ho100, trivial⟩, by first | omega | (dsimp only; omega), ⟨rfl, rfl, rfl, rfl, rfl, rfl, rfl, rfl, rfl, rfl, rfl, rfl, rfl, rfl, rfl, rfl, rfl, rfl, rfl, trivial⟩⟩
      · -- else
        refine AW.skip ?_
        refine nrm_and ?_
        refine AW.rs ?_
        have X104 := Ext.refl H92
        have hr105 := ho100.rd.lo
        have y19 := vS_px hv (show i < l.length by omega)
        rw [px_at hz19_] at y19
        have y27 := vS_px hv (show j < l.length by omega)
        rw [px_at hz67] at y27
        have y106 := hb101.lt
        have y107 := hb102.lt
        have o108 := X95.bd
        have o109 := X96.bd
        have o110 := X97.bd
        have o111 := X104.bd
        have a112 := ho100.ltb
        refine AL.w rfl (.inl rfl) (WV.bsK (K := kI) (l := ([0] : List Int)) (css := [[.int .i64 0]]) sl25 rfl rfl (by first | rfl | (simp [Instr.fill, Value.cells, kI, kB, kU, kU8, kS, Kd.sc]; done) | (simp [Instr.fill, Value.cells, kI, kB, kU, kU8, kS, Kd.sc, rng1, rng2, rng3, rng4, kP])) rfl (segs_cons rfl segs_nil)) ?_
        rintro v113 H114 ⟨hx115, ho116⟩
        have q117 := Nat.le_trans q99 hx115.bd
        have X118 := Ext.trans X95 hx115
        have X119 := Ext.trans X96 hx115
        have X120 := Ext.trans X97 hx115
        have X121 := Ext.trans X104 hx115
        have ho122 := ho100.ext hx115
        have hb123 := hb101.ext hx115
        have hb124 := hb102.ext hx115
        refine AL.val rfl (.inl rfl) (HV.mv rfl) ?_
        have X126 := Ext.refl H114
        refine AL.w rfl (.inl rfl) (WV.apk sl25 rfl rfl ho116 (hr105.lo.ext X121) (by simp; omega) (by simp; omega) (fun b hb _ e => by have h1 : H92.bd ≤ b := (ho116.blk b e).1; have h2 : b < H92.bd := hb; have h3 := o111; omega)) ?_
        rintro v127 H128 ⟨hx129, ho130, hb131⟩
        have ho132 := ho130.narrow (ok' := fun b => H92.bd ≤ b) kI_flat (fun b q => (hb131 b q).elim (fun e => (ho116.blk b e).1) (fun e => Nat.le_trans X121.bd e))
        have q133 := Nat.le_trans q117 hx129.bd
        have X134 := Ext.thru X118 hx129 (fun b hb => Nat.le_trans o108 (ho116.blk b hb).1)
        have X135 := Ext.thru X119 hx129 (fun b hb => Nat.le_trans o109 (ho116.blk b hb).1)
        have X136 := Ext.thru X120 hx129 (fun b hb => Nat.le_trans o110 (ho116.blk b hb).1)
        have X137 := Ext.thru X121 hx129 (fun b hb => Nat.le_trans o111 (ho116.blk b hb).1)
        have q139 := Nat.le_trans X126.bd hx129.bd
        have ho140 := ho122.but hx129 (fun b hb _ e => by have h1 := a112 b hb.2; have h2 : H92.bd ≤ b := (ho116.blk b e).1; omega) (fun b hb => (ho116.blk b hb).2.2)
        have hb141 := hb123.but hx129 (fun e => by have q : H92.bd ≤ _ := (ho116.blk _ e).1; omega)
        have hb142 := hb124.but hx129 (fun e => by have q : H92.bd ≤ _ := (ho116.blk _ e).1; omega)
        refine AL.val rfl (.inl rfl) (HV.as rfl) ?_
        refine AL.nx ?_
        refine AW.seq ?_
        refine AW.draw' [0, 0, 0, 4, 14, 0, 0, 64, 255] mixed (by rfl) ?_
        refine Dr.read 0 _ 35 _ rfl rfl rfl rfl rfl (RV.of (by intro _ _ h; cases h) (.inl rfl) (fun _ xd => HV.mv rfl)) ?_
        refine Dr.read 1 _ 36 _ rfl rfl rfl rfl rfl (RV.of (by intro _ _ h; cases h) (.inl rfl) (fun _ xd => HV.mv rfl)) ?_
        refine Dr.read 2 _ 37 _ rfl rfl rfl rfl rfl (RV.of (by intro _ _ h; cases h) (.inl rfl) (fun _ xd => HV.mv rfl)) ?_
        refine Dr.read 3 _ 38 _ rfl rfl rfl rfl rfl (RV.of (by intro _ _ h; cases h) (.inl rfl) (fun _ xd => HV.len Tryz.underlying25 rfl hr105.isSl)) ?_
        refine Dr.read 4 _ 39 _ rfl rfl rfl rfl rfl (RV.of (by intro _ _ h; cases h) (.inl rfl) (fun _ xd => (OwnK.cutA (q := (k.length : Int)) ho132 sl25 (by omega) (by simp only [List.length_append]; omega)) rfl rfl)) ?_
        refine Dr.read 5 _ 40 _ rfl rfl rfl rfl rfl (RV.of (by intro _ _ h; cases h) (.inl rfl) (fun _ xd => HV.mv rfl)) ?_
        refine Dr.read 6 _ 41 _ rfl rfl rfl rfl rfl (RV.of (by intro _ _ h; cases h) (.inl rfl) (fun _ xd => HV.fa fl36_0 rfl)) ?_
        refine Dr.read 7 _ 42 _ rfl rfl rfl rfl rfl (RV.of (by intro _ _ h; cases h) (.inl rfl) (fun _ xd => HV.ld rfl va2 (rdc_ext xd (at_cell hb142 rfl)))) ?_
        refine Dr.eff 8 _ _ rfl (by intro d h; cases h; exact ⟨rfl, rfl⟩) rfl rfl rfl (EC.of (by intro _ _ h; cases h) (.inl rfl) (WV.call fn66 rfl (takeOff_ok (n := ((k.length : Int) : Int).toNat) ho132 (hr105.ext X137) (fun b h1 e => by have h1' : b < H92.bd := h1; have h2 : H92.bd ≤ b := (ho132.blk b e).1; omega) hp rfl hke (by omega) (by omega) (by omega)))) (fun v H' h => .inr (.inl rfl)) ?_
        rintro _ H143 ⟨hx144, ho145⟩
        have q146 := Nat.le_trans q133 hx144.bd
        have q147 := Nat.le_trans q139 hx144.bd
        have X148 := Ext.thru X134 hx144 (fun b hb => Nat.le_trans o108 (ho132.blk b hb).1)
        have X149 := Ext.thru X135 hx144 (fun b hb => Nat.le_trans o109 (ho132.blk b hb).1)
        have X150 := Ext.thru X136 hx144 (fun b hb => Nat.le_trans o110 (ho132.blk b hb).1)
        have X151 := Ext.thru X137 hx144 (fun b hb => Nat.le_trans o111 (ho132.blk b hb).1)
        have ho152 := ho140.but hx144 (fun b hb _ e => by have h1 := a112 b hb.2; have h2 : H92.bd ≤ b := (ho132.blk b e).1; omega) (fun b hb => (ho132.blk b hb).2.2)
        have hb153 := hb141.but hx144 (fun e => by have q : H92.bd ≤ _ := (ho132.blk _ e).1; omega)
        have hb154 := hb142.but hx144 (fun e => by have q : H92.bd ≤ _ := (ho132.blk _ e).1; omega)
        refine Dr.fin rfl ?_
        refine nrm_and ?_
        refine AW.rs ?_
        refine AL.val rfl (.inl rfl) (HV.mv rfl) ?_
        refine AL.val rfl (.inl rfl) (HV.as rfl) ?_
        refine AL.nx ?_
        refine AW.reg ?_
        refine AL.val rfl (.inl rfl) (HV.mv rfl) ?_
        refine AL.val rfl (.inl rfl) (HV.fa fl36_0 rfl) ?_
        refine AL.val rfl (.inl rfl) (HV.ld rfl va2 (at_cell hb153 rfl)) ?_
        refine AL.val rfl (.inl rfl) (HV.fa fl36_0 rfl) ?_
        refine AL.val rfl (.inl rfl) (HV.ld rfl va2 (at_cell hb154 rfl)) ?_
        refine AL.val rfl (.inl rfl) (HV.sub rfl rfl (by omega)) ?_
        refine AL.val rfl (.inl rfl) (HV.mv rfl) ?_
        refine AL.val rfl (.inl rfl) (HV.add rfl rfl (by omega)) ?_
        have q53 := mul62 (a := d) (b := z14.1 - z65.1 + p) (by omega) (by omega) (by omega) (by omega)
        refine AL.val rfl (.inl rfl) (HV.mul rfl rfl (by omega)) ?_
        refine AL.val rfl (.inl rfl) (HV.mv rfl) ?_
        refine AL.val rfl (.inl rfl) (HV.rem rfl rfl (by omega)) ?_
        refine AL.val rfl (.inl rfl) (HV.as rfl) ?_
        refine AL.nil ?_
        refine nrm_blk (nrm_and ?_)
        refine AW.reg ?_
        refine AL.val rfl (.inl rfl) (HV.add rfl rfl (by omega)) ?_
        refine AL.val rfl (.inl rfl) (HV.mv rfl) ?_
        refine AL.nil ?_
        refine nrm_and ?_
        exact ⟨(j + 1, v127, (mulLin p k z65.1), (d * ((z14.1 - z65.1) + p)) % p), ⟨X148, X149, X150, hb153, by omega, by rw [prt_succ, if_neg (by omega), px_at hz67, ← hkp], by rw [den_succ, if_neg (by omega), px_at hz19_, px_at hz67, ← hdp], ho145.narrow kI_flat (fun b q => ⟨Nat.le_trans o110 (ho145.blk b q).1, q⟩), trivial⟩, by first | omega | (dsimp only; omega), ⟨rfl, rfl, rfl, rfl, rfl, rfl, rfl, rfl, rfl, rfl, rfl, rfl, rfl, rfl, rfl, rfl, rfl, rfl, rfl, trivial⟩⟩
    · -- else
      refine AW.exit ?_
      refine ex_and (ex_and (ex_blk ?_))
      refine nrm_and ?_
      refine AW.seq ?_
      refine AW.draw' [0, 0, 0, 0, 12, 0, 32, 124, 0, 508, 1023] mixed (by rfl) ?_
      refine Dr.read 0 _ 57 _ rfl rfl rfl rfl rfl (RV.of (by intro _ _ h; cases h) (.inl rfl) (fun _ xd => HV.mv rfl)) ?_
      refine Dr.read 1 _ 58 _ rfl rfl rfl rfl rfl (RV.of (by intro _ _ h; cases h) (.inl rfl) (fun _ xd => HV.mv rfl)) ?_
      refine Dr.read 2 _ 59 _ rfl rfl rfl rfl rfl (RV.of (by intro _ _ h; cases h) (.inl rfl) (fun _ xd => HV.mv rfl)) ?_
      refine Dr.read 3 _ 60 _ rfl rfl rfl rfl rfl (RV.of (by intro _ _ h; cases h) (.inl rfl) (fun _ xd => HV.mv rfl)) ?_
      refine Dr.read 5 _ 62 _ rfl rfl rfl rfl rfl (RV.of (by intro _ _ h; cases h) (.inl rfl) (fun _ xd => HV.fa fl36_1 rfl)) ?_
      refine Dr.read 6 _ 63 _ rfl rfl rfl rfl rfl (RV.of (by intro _ _ h; cases h) (.inl rfl) (fun _ xd => HV.ld rfl va2 (rdc_ext xd (at_cell_add (j := 1) hb62 rfl)))) ?_
      refine Dr.read 8 _ 65 _ rfl rfl rfl rfl rfl (RV.of (by intro _ _ h; cases h) (.inl rfl) (fun _ xd => HV.mv rfl)) ?_
      have y20 := vS_py hv (show i < l.length by omega)
      rw [gd hz19_ rfl] at y20
      have q61 := invM_spec hq hdb.1 hdb.2
      have q64 := mul31 (a := invM p d) (b := z14.2) (by omega) (by omega) (by omega) (by omega)
      refine Dr.eff 4 _ _ rfl (by intro d h; cases h; exact ⟨rfl, rfl⟩) rfl rfl rfl (EC.of (by intro _ _ h; cases h) (.inl rfl) (WV.call fn68 rfl (inverse_ok (W := W) p d hq (by omega) (by omega)))) (fun v H' h => .inl (h.2)) ?_
      rintro _ H155 ⟨rfl, hx156⟩
      have X157 := Ext.trans X59 hx156
      have X158 := Ext.trans X60 hx156
      have X159 := Ext.trans X61 hx156
      have ho160 := hoL.ext hx156
      have hb161 := hb62.ext hx156
      refine Dr.read 7 _ 64 _ rfl rfl rfl rfl rfl (RV.of (by intro _ _ h; cases h) (.inl rfl) (fun _ xd => HV.mul rfl rfl (by omega))) ?_
      refine Dr.read 9 _ 66 _ rfl rfl rfl rfl rfl (RV.of (by intro _ _ h; cases h) (.inl rfl) (fun _ xd => HV.rem rfl rfl (by omega))) ?_
      refine Dr.eff 10 _ _ rfl (by intro d h; cases h; exact ⟨rfl, rfl⟩) rfl rfl rfl (EC.of (by intro _ _ h; cases h) (.inl rfl) (WV.call fn67 rfl (scaled_ok ho160 hp hke (by have := emod_bd (show 0 < p by omega) (invM p d * z14.2); omega)))) (fun v H' h => .inr (.inl rfl)) ?_
      rintro _ H162 ⟨hx163, ho164⟩
      have X165 := Ext.thru X157 hx163 (fun b hb => Nat.le_trans o44 (ho160.blk b hb).1.1)
      have X166 := Ext.thru X158 hx163 (fun b hb => Nat.le_trans o45 (ho160.blk b hb).1.1)
      have X167 := Ext.thru X159 hx163 (fun b hb => Nat.le_trans o46 (ho160.blk b hb).1.1)
      have hb168 := hb161.but hx163 (fun e => by have q : H34.bd ≤ _ := (ho160.blk _ e).1.1; omega)
      refine Dr.fin rfl ?_
      refine nrm_and ?_
      refine AW.reg ?_
      refine AL.val rfl (.inl rfl) (HV.mv rfl) ?_
      refine AL.val rfl (.inl rfl) (HV.mv rfl) ?_
      refine AL.val rfl (.inl rfl) (HV.mv rfl) ?_
      have X169 := Ext.refl H162
      have y170 := hb168.lt
      have o171 := X165.bd
      have o172 := X166.bd
      have o173 := X167.bd
      have o174 := X169.bd
      have a175 := ho164.ltb
      refine AL.w rfl (.inl rfl) (WV.call fn69 rfl (addCu_ok (hro.rd.ext X166) ho164.rd hp (by rw [hov]; exact thr_in (by omega) l i) (scl_in (by omega) _ _) ⟨by rw [hov]; have := thr_len p l i; omega, by rw [scl_len]; omega⟩)) ?_
      rintro v176 H177 ⟨hx178, ho179⟩
      have X180 := Ext.trans X165 hx178
      have X181 := Ext.trans X166 hx178
      have X182 := Ext.trans X167 hx178
      have X183 := Ext.trans X169 hx178
      have ho184 := ho164.ext hx178
      have hb185 := hb168.ext hx178
      refine AL.val rfl (.inl rfl) (HV.as rfl) ?_
      refine AL.nil ?_
      refine nrm_blk (nrm_and ?_)
      refine AW.reg ?_
      refine AL.val rfl (.inl rfl) (HV.add rfl rfl (by omega)) ?_
      refine AL.val rfl (.inl rfl) (HV.mv rfl) ?_
      refine AL.nil ?_
      refine nrm_and ?_
      exact ⟨(i + 1, v176, (addC p 1 o (scl p (((invM p d) * z14.2) % p) k))), ⟨X180, by omega, by have hj2 : j = l.length := (by omega); rw [thr_succ, ← hj2, ← hkp, ← hdp, ← hov, (gd hz19_ rfl : l.getD i (0, 0) = z14)], ho179.okk (fun b hb _ => Nat.le_trans o171 hb), trivial⟩, by first | omega | (dsimp only; omega), ⟨rfl, rfl, rfl, rfl, rfl, rfl, rfl, trivial⟩⟩
  · -- else
    refine AW.exit ?_
    refine ex_and (ex_and (ex_blk ?_))
    refine nrm_and ?_
    refine AW.rs ?_
    refine AL.val rfl (.inl rfl) (HV.mv rfl) ?_
    refine AL.w rfl (.inl rfl) (WV.call fn70 rfl (strip_own hro (stripC_ok hro.rd))) ?_
    rintro v188 H187 ⟨hb189, ho190⟩
    have X191 := Ext.thru X10 hb189 (fun b e => (hro.blk b e).1)
    refine AL.val rfl (.inl rfl) (HV.as rfl) ?_
    refine AL.nx ?_
    refine AW.ret ?_
    refine post_one rfl rfl ?_ (.inr rfl)
    exact ⟨X191, by have e : o = thr p l l.length := (by rw [hov, show i = l.length by omega]); have q := ho190; rw [e, thr_through hv] at q; exact q⟩
end Go.Proofs.YtbjcgcililpfdaaGreat.VC

