/- Walks. -/
import Derived.Test.YteajnanbfkcdcaaDoorVR2
set_option linter.unusedVariables false
set_option linter.unusedSimpArgs false
namespace Go.Proofs.YteajnanbfkcdcaaDoor.VC
open Go Go.RowKit
variable {W : World} {H : Hp}

set_option maxRecDepth 100000 in
theorem decG_ok (hE : Env W) (a : Int) (ha : (-9223372036854775808 ≤ a ∧ a ≤ 9223372036854775807)) : ACalls Tryd.prog W 42 #[.int .i64 a] H (fun r H' => r = .string (bytesOf (itoaI a)) ∧ Ext H H') := by
  refine ACalls.of (args := [.int .i64 a]) Tryd.func42 rfl rfl ?_
  have X0 := Ext.refl H
  refine AW.rs ?_
  refine AL.val rfl (.inl rfl) (HV.as rfl) ?_
  refine AL.nx ?_
  refine AW.rs ?_
  refine AL.val rfl (.inl rfl) (HV.mv rfl) ?_
  refine AL.w rfl (.inl rfl) (WV.call fn56 rfl (fm_ok hE a ha)) ?_
  rintro _ H1 ⟨rfl, hx2⟩
  have X3 := Ext.trans X0 hx2
  refine AL.val rfl (.inl rfl) (HV.as rfl) ?_
  refine AL.nx ?_
  refine AW.ret ?_
  refine post_one rfl rfl ?_ (.inr rfl)
  exact ⟨rfl, X3⟩

set_option maxRecDepth 100000 in
theorem wordsG_ok {v : Value} {l : List Int} {ok : Nat → Prop} {w0 : List Int} (hE : Env W) (hw : isB w0) (hr : RdK kI W H ok v l) (hwl : w0.length ≤ 4000) (hl : l.length ≤ 4001) (hbd : ∀ a ∈ l, (-9223372036854775808 ≤ a ∧ a ≤ 9223372036854775807)) : ACalls Tryd.prog W 28 #[.string (bytesOf w0), v] H (fun r H' => r = .string (bytesOf (w0 ++ wordsI l)) ∧ Ext H H') := by
  refine ACalls.of (args := [.string (bytesOf w0), v]) Tryd.func28 rfl rfl ?_
  have X0 := Ext.refl H
  have hm1 := hr.max
  refine AW.rs ?_
  refine AL.val rfl (.inl rfl) (HV.as rfl) ?_
  refine AL.nx ?_
  refine AW.rs ?_
  refine AL.val rfl (.inl rfl) (HV.mv rfl) ?_
  refine AL.val rfl (.inl rfl) (HV.as rfl) ?_
  refine AL.nx ?_
  refine AW.seq ?_
  refine AW.rs ?_
  refine AL.val rfl (.inl rfl) (HV.mv rfl) ?_
  refine AL.val rfl (.inl rfl) (HV.len Tryd.underlying22 rfl hr.isSl) ?_
  refine AL.val rfl (.inl rfl) (HV.mv rfl) ?_
  refine AL.nx ?_
  refine AW.block ?_
  refine AW.loop (σ := Nat × List Int) (fun ⟨i, s⟩ => [(4, .string (bytesOf [])), (9, v), (10, .int .i64 (l.length : Int)), (5, .string (bytesOf s)), (11, .int .i64 (i : Int))]) (fun ⟨i, s⟩ H' => Ext H H' ∧ i ≤ l.length ∧ s = w0 ++ wordsI (l.take i) ∧ s.length ≤ 4000 + 22 * i ∧ isB s ∧ True) (fun ⟨i, s⟩ => l.length - i) (0, w0) ⟨X0, Nat.zero_le _, by simp [wordsI], by omega, hw, trivial⟩ ⟨rfl, rfl, rfl, rfl, rfl, trivial⟩ ?_
  rintro ⟨i, s⟩ H2 ⟨X3, hi, hs, hsl, hsb, _⟩
  refine AW.rs ?_
  refine AL.val rfl (.inl rfl) (HV.lti rfl rfl) ?_
  refine AL.nx ?_
  refine AW.seq ?_
  refine AW.ifd rfl (fun c4 => ?_) (fun c4 => ?_)
  · -- then
    refine AW.skip ?_
    refine nrm_and ?_
    refine AW.seq ?_
    refine AW.block ?_
    refine AW.rs ?_
    obtain ⟨p5, z6, cs7, hz8, hK9, hC10, hP11⟩ := RdK.ix (q := (i : Int)) hr sl22 (by omega) (by omega)
    obtain rfl : cs7 = [.int .i64 z6] := hK9
    refine AL.val rfl (.inl rfl) (hP11 rfl rfl) ?_
    refine AL.val rfl (.inl rfl) (HV.ld rfl va2 (cells_first (hC10.ext X3) rfl)) ?_
    refine AL.val rfl (.inl rfl) (HV.as rfl) ?_
    refine AL.nx ?_
    refine AW.reg ?_
    refine AL.val rfl (.inl rfl) (HV.mv rfl) ?_
    have hbz := hbd _ (List.mem_of_getElem? hz8)
    refine AL.val rfl (.inl rfl) (HV.mv rfl) ?_
    refine AL.w rfl (.inl rfl) (WV.call fn42 rfl (decG_ok hE z6 hbz)) ?_
    rintro _ H12 ⟨rfl, hx13⟩
    have X14 := Ext.trans X3 hx13
    refine AL.val rfl (.inl rfl) (HV.addB (a := [32]) (b := (itoaI z6)) rfl rfl (by have q := itoaI_len hbz; simp only [List.length_cons, List.length_nil]; omega)) ?_
    refine AL.val rfl (.inl rfl) (HV.addB (a := s) (b := ([32] ++ (itoaI z6))) rfl rfl (by have q := itoaI_len hbz; simp only [List.length_append, List.length_cons, List.length_nil]; omega)) ?_
    refine AL.val rfl (.inl rfl) (HV.as rfl) ?_
    refine AL.nil ?_
    refine nrm_blk (nrm_and ?_)
    refine AW.reg ?_
    refine AL.val rfl (.inl rfl) (HV.add rfl rfl (by omega)) ?_
    refine AL.val rfl (.inl rfl) (HV.mv rfl) ?_
    refine AL.nil ?_
    refine nrm_and ?_
    exact ⟨(i + 1, (s ++ ([32] ++ (itoaI z6)))), ⟨X14, by omega, by rw [wordsI_snoc (getq hz8 rfl), hs]; simp only [List.append_assoc], by have q := itoaI_len hbz; simp only [List.length_append, List.length_cons, List.length_nil]; omega, (isB_app hsb (isB_app (show ∀ x ∈ ([32] : List Int), 0 ≤ x ∧ x ≤ 255 by decide) (itoaI_isB _))), trivial⟩, by first | omega | (dsimp only; omega), ⟨rfl, rfl, rfl, rfl, rfl, trivial⟩⟩
  · -- else
    refine AW.exit ?_
    refine ex_and (ex_and (ex_blk ?_))
    refine nrm_and ?_
    refine AW.rs ?_
    refine AL.val rfl (.inl rfl) (HV.mv rfl) ?_
    refine AL.val rfl (.inl rfl) (HV.as rfl) ?_
    refine AL.nx ?_
    refine AW.ret ?_
    refine post_one rfl rfl ?_ (.inr rfl)
    exact ⟨by rw [hs, List.take_of_length_le (by omega)], X3⟩

set_option maxRecDepth 100000 in
theorem readW_ok {t w0 : List Int} (hE : Env W) (hb : isB t) (hw : isB w0) (hl : t.length ≤ 4000) (hwl : w0.length ≤ 4000) : ACalls Tryd.prog W 14 #[.string (bytesOf t), .string (bytesOf w0)] H (fun r H' => (∃ v k b, r = .tuple #[v, .bool b] ∧ OwnK kI 2 W H' (fun b => H.bd ≤ b) v k ∧ rwI w0 t = (if b = true then some k else none)) ∧ Ext H H') := by
  refine ACalls.of (args := [.string (bytesOf t), .string (bytesOf w0)]) Tryd.func14 rfl rfl ?_
  have X0 := Ext.refl H
  refine AW.rs ?_
  refine AL.val rfl (.inl rfl) (HV.as rfl) ?_
  refine AL.val rfl (.inl rfl) (HV.as rfl) ?_
  refine AL.nx ?_
  refine AW.rs ?_
  refine AL.val rfl (.inl rfl) (HV.mv rfl) ?_
  have o1 := X0.bd
  refine AL.w rfl (.inl rfl) (WV.call fn13 rfl (spl_ok hE t 32 hb (by decide) (by omega))) ?_
  rintro v2 H3 ⟨hx4, ho5⟩
  have X9 := Ext.trans X0 hx4
  have X10 := Ext.refl H3
  have hsl6 := sp_len (c := 32) t
  have hn8 := List.length_pos_iff.2 (spI_ne 32 t)
  have hr7 := (OwnK.sb ho5 (fun p hp => sp_isB hb p hp)).rd
  refine AL.val rfl (.inl rfl) (HV.as rfl) ?_
  refine AL.nx ?_
  refine AW.rs ?_
  have o11 := X9.bd
  have o12 := X10.bd
  refine AL.w rfl (.inl rfl) (WV.bsK (K := kI) (l := ([] : List Int)) (css := []) sl22 rfl rfl (by first | rfl | (simp [Instr.fill, Value.cells, kI, kB, kU, kU8, kS, Kd.sc]; done) | (simp [Instr.fill, Value.cells, kI, kB, kU, kU8, kS, Kd.sc, rng1, rng2, rng3, rng4, kP])) rfl segs_nil) ?_
  rintro v13 H14 ⟨hx15, ho16⟩
  have X17 := Ext.trans X9 hx15
  have X18 := Ext.trans X10 hx15
  refine AL.val rfl (.inl rfl) (HV.as rfl) ?_
  refine AL.nx ?_
  refine AW.seq ?_
  refine AW.rs ?_
  refine AL.val rfl (.inl rfl) (HV.mv rfl) ?_
  have X23 := Ext.refl H14
  obtain ⟨v20, hr21, hP22⟩ := RdK.cutL (q := 1) hr7 sl33 (by omega) (by omega)
  refine AL.val rfl (.inl rfl) (hP22 rfl rfl) ?_
  refine AL.val rfl (.inl rfl) (HV.len Tryd.underlying33 rfl hr21.isSl) ?_
  refine AL.val rfl (.inl rfl) (HV.mv rfl) ?_
  refine AL.nx ?_
  refine AW.block ?_
  refine AW.loop (σ := Nat × Value × List Int) (fun ⟨j, vv, k⟩ => [(0, .string (bytesOf t)), (1, .string (bytesOf w0)), (16, v20), (17, .int .i64 (((spI 32 t).drop (1 : Int).toNat).length : Int)), (7, vv), (18, .int .i64 (j : Int))]) (fun ⟨j, vv, k⟩ H' => Ext H H' ∧ Ext H3 H' ∧ j ≤ ((spI 32 t).drop (1 : Int).toNat).length ∧ mm PI (((spI 32 t).drop (1 : Int).toNat).take j) = some k ∧ k.length = j ∧ (∀ a ∈ k, (-9223372036854775808 ≤ a ∧ a ≤ 9223372036854775807)) ∧ OwnK kI 2 W H' (fun b => H3.bd ≤ b) vv k ∧ True) (fun ⟨j, vv, k⟩ => ((spI 32 t).drop (1 : Int).toNat).length - j) (0, v13, []) ⟨X17, X18, Nat.zero_le _, rfl, rfl, (fun a ha => by cases ha), ho16, trivial⟩ ⟨rfl, rfl, rfl, rfl, rfl, rfl, trivial⟩ ?_
  rintro ⟨j, vv, k⟩ H24 ⟨X25, X26, hj, hk, hkl, hkb, hoL, _⟩
  have hdl : ((spI 32 t).drop (1 : Int).toNat).length = (spI 32 t).length - 1 := List.length_drop
  refine AW.rs ?_
  refine AL.val rfl (.inl rfl) (HV.lti rfl rfl) ?_
  refine AL.nx ?_
  refine AW.seq ?_
  refine AW.ifd rfl (fun c27 => ?_) (fun c27 => ?_)
  · -- then
    refine AW.skip ?_
    refine nrm_and ?_
    refine AW.seq ?_
    refine AW.block ?_
    refine AW.rs ?_
    obtain ⟨p28, z29, cs30, hz31, hK32, hC33, hP34⟩ := RdK.ix (q := (j : Int)) hr21 sl33 (by omega) (by omega)
    obtain ⟨rfl, hB35⟩ := hK32
    refine AL.val rfl (.inl rfl) (hP34 rfl rfl) ?_
    refine AL.val rfl (.inl rfl) (HV.ld rfl va9 (cells_first (hC33.ext X26) rfl)) ?_
    refine AL.val rfl (.inl rfl) (HV.as rfl) ?_
    refine AL.nx ?_
    refine AW.rs ?_
    refine AL.val rfl (.inl rfl) (HV.mv rfl) ?_
    have hzl := hsl6.2 _ (List.mem_of_mem_drop (List.mem_of_getElem? hz31))
    refine AL.w rfl (.inl rfl) (WV.call fn27 rfl (pi_ok hE z29 (by omega))) ?_
    rintro _ H36 ⟨h37, hx38⟩
    rcases h37 with ⟨v39, rfl, hp42⟩ | ⟨v39, a40, b41, rfl, hp42⟩
    · -- a number
      have X43 := Ext.trans X25 hx38
      have X44 := Ext.trans X26 hx38
      have ho45 := hoL.ext hx38
      refine AL.val rfl (.inl rfl) (HV.mv rfl) ?_
      refine AL.val rfl (.inl rfl) (HV.ex rfl rfl) ?_
      refine AL.val rfl (.inl rfl) (HV.ex rfl rfl) ?_
      refine AL.val rfl (.inl rfl) (HV.as rfl) ?_
      refine AL.val rfl (.inl rfl) (HV.as rfl) ?_
      refine AL.nx ?_
      refine AW.seq ?_
      refine AW.rs ?_
      refine AL.val rfl (.inl rfl) (HV.mv rfl) ?_
      refine AL.val rfl (.inl rfl) (HV.neI0 (by rw [Tryd.underlying55]; rfl) rfl) ?_
      refine AL.nx ?_
      refine AW.cond rfl (fun h => by cases h) (fun _ => ?_)
      refine AW.skip ?_
      refine nrm_and ?_
      refine AW.reg ?_
      refine AL.val rfl (.inl rfl) (HV.mv rfl) ?_
      refine AL.val rfl (.inl rfl) (HV.mv rfl) ?_
      have X47 := Ext.refl H36
      have o48 := X43.bd
      have o49 := X44.bd
      have o50 := X47.bd
      have a51 := ho45.ltb
      refine AL.w rfl (.inl rfl) (WV.bsK (K := kI) (l := ([v39] : List Int)) (css := [[.int .i64 v39]]) sl22 rfl rfl (by first | rfl | (simp [Instr.fill, Value.cells, kI, kB, kU, kU8, kS, Kd.sc]; done) | (simp [Instr.fill, Value.cells, kI, kB, kU, kU8, kS, Kd.sc, rng1, rng2, rng3, rng4, kP])) rfl (segs_cons rfl segs_nil)) ?_
      rintro v52 H53 ⟨hx54, ho55⟩
      have X56 := Ext.trans X43 hx54
      have X57 := Ext.trans X44 hx54
      have X58 := Ext.trans X47 hx54
      have ho59 := ho45.ext hx54
      have X61 := Ext.refl H53
      refine AL.w rfl (.inl rfl) (WV.apk sl22 rfl rfl ho59 ho55.rd (by rw [hkl]; simp; omega) (by rw [hkl]; simp; omega) (fun b hb _ e => Nat.lt_irrefl _ (Nat.lt_of_lt_of_le (a51 b e) hb))) ?_
      rintro v62 H63 ⟨hx64, ho65, hb66⟩
      have ho67 := ho65.narrow (ok' := fun b => H3.bd ≤ b) kI_flat (fun b q => (hb66 b q).elim (fun e => (ho59.blk b e).1) (fun e => Nat.le_trans X57.bd e))
      have X68 := Ext.thru X56 hx64 (fun b hb => Nat.le_trans o11 (ho59.blk b hb).1)
      have X69 := Ext.thru X57 hx64 (fun b hb => Nat.le_trans o12 (ho59.blk b hb).1)
      refine AL.val rfl (.inl rfl) (HV.as rfl) ?_
      refine AL.nil ?_
      refine nrm_blk (nrm_and ?_)
      refine AW.reg ?_
      refine AL.val rfl (.inl rfl) (HV.add rfl rfl (by omega)) ?_
      refine AL.val rfl (.inl rfl) (HV.mv rfl) ?_
      refine AL.nil ?_
      refine nrm_and ?_
      exact ⟨(j + 1, v62, (k ++ (([v39] : List Int) : List Int))), ⟨X68, X69, by omega, mm_take hk (getq hz31 rfl) hp42, by simp; omega, (fun a ha => (List.mem_append.1 ha).elim (hkb a) (fun e => by rw [List.mem_singleton.1 e]; exact PI_bd hp42)), ho67, trivial⟩, by first | omega | (dsimp only; omega), ⟨rfl, rfl, rfl, rfl, rfl, rfl, trivial⟩⟩
    · -- none
      have X73 := Ext.trans X25 hx38
      have X74 := Ext.trans X26 hx38
      have ho75 := hoL.ext hx38
      refine AL.val rfl (.inl rfl) (HV.mv rfl) ?_
      refine AL.val rfl (.inl rfl) (HV.ex rfl rfl) ?_
      refine AL.val rfl (.inl rfl) (HV.ex rfl rfl) ?_
      refine AL.val rfl (.inl rfl) (HV.as rfl) ?_
      refine AL.val rfl (.inl rfl) (HV.as rfl) ?_
      refine AL.nx ?_
      refine AW.seq ?_
      refine AW.rs ?_
      refine AL.val rfl (.inl rfl) (HV.mv rfl) ?_
      refine AL.val rfl (.inl rfl) (HV.neI1 (by rw [Tryd.underlying55]; rfl) rfl) ?_
      refine AL.nx ?_
      refine AW.cond rfl (fun _ => ?_) (fun h => by cases h)
      refine AW.rs ?_
      refine AL.val rfl (.inl rfl) (HV.as rfl) ?_
      refine AL.val rfl (.inl rfl) (HV.as rfl) ?_
      refine AL.nx ?_
      refine AW.ret ?_
      refine ret_and (ret_blk (ret_and (ret_and (ret_blk (ret_and ?_)))))
      refine post_two rfl rfl rfl ?_ (.inr rfl)
      exact ⟨⟨_, [], _, rfl, OwnK.nil _, by rw [if_neg (by decide)]; unfold rwI; rw [show (spI 32 t).tail = ((spI 32 t).drop (1 : Int).toNat) from List.drop_one.symm, mm_none (i := j) (z := z29) (getq hz31 rfl) hp42]⟩, X73⟩
  · -- else
    refine AW.exit ?_
    refine ex_and (ex_and (ex_blk ?_))
    refine nrm_and ?_
    refine AW.rs ?_
    refine AL.val rfl (.inl rfl) (HV.mv rfl) ?_
    refine AL.val rfl (.inl rfl) (HV.mv rfl) ?_
    refine AL.val rfl (.inl rfl) (HV.mv rfl) ?_
    refine AL.w rfl (.inl rfl) (WV.call fn28 rfl (wordsG_ok hE hw hoL.rd hwl (by omega) hkb)) ?_
    rintro _ H77 ⟨rfl, hx78⟩
    have X79 := Ext.trans X25 hx78
    have X80 := Ext.trans X26 hx78
    have ho81 := hoL.ext hx78
    refine AL.val rfl (.inl rfl) (HV.mv rfl) ?_
    refine AL.val rfl (.inl rfl) (HV.eqB (a := (w0 ++ wordsI k)) (b := t) (isB_app hw (wordsI_isB _)) hb rfl rfl) ?_
    refine AL.val rfl (.inl rfl) (HV.as rfl) ?_
    refine AL.val rfl (.inl rfl) (HV.as rfl) ?_
    refine AL.nx ?_
    refine AW.ret ?_
    refine post_two rfl rfl rfl ?_ (.inr rfl)
    exact ⟨⟨_, k, _, rfl, ho81.okk (fun b hb _ => Nat.le_trans o11 hb), by unfold rwI; rw [show (spI 32 t).tail = ((spI 32 t).drop (1 : Int).toNat) from List.drop_one.symm, ← List.take_of_length_le (l := ((spI 32 t).drop (1 : Int).toNat)) (i := j) (by omega), hk]; simp only [decide_eq_true_eq]⟩, X79⟩
end Go.Proofs.YteajnanbfkcdcaaDoor.VC
