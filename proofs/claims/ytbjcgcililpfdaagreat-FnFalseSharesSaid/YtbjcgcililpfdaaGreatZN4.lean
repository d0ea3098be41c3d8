/- Walks. -/
import Derived.Test.YtbjcgcililpfdaaGreatZN3
set_option linter.unusedVariables false
set_option linter.unusedSimpArgs false
namespace Go.Proofs.YtbjcgcililpfdaaGreat.VC
open Go Go.RowKit
variable {W : World} {H : Hp}

open VI (throughM)
/-! ### The shares that do not lie on a curve -/
def missP (p : Int) (l : List (Int × Int)) (c : List Int) (i : Nat) : Prop := ¬ val p c (pxD l i) = (l.getD i (0, 0)).2
noncomputable instance (p : Int) (l : List (Int × Int)) (c : List Int) (i : Nat) : Decidable (missP p l c i) := Classical.propDecidable _
noncomputable def missN (p : Int) (l : List (Int × Int)) (c : List Int) (n : Nat) : List Int := ((List.range n).filter (fun i => decide (missP p l c i))).map (fun i : Nat => (i : Int))
noncomputable def missL (p : Int) (l : List (Int × Int)) (c : List Int) : List Int := missN p l c l.length
theorem missN_y {p : Int} {l : List (Int × Int)} {c : List Int} {i : Nat} (h : missP p l c i) : missN p l c (i + 1) = missN p l c i ++ [(i : Int)] := by
  unfold missN; simp [List.range_succ, List.filter_append, h]
theorem missN_n {p : Int} {l : List (Int × Int)} {c : List Int} {i : Nat} (h : ¬ missP p l c i) : missN p l c (i + 1) = missN p l c i := by
  unfold missN; simp [List.range_succ, List.filter_append, h]
theorem missN_len (p : Int) (l : List (Int × Int)) (c : List Int) (n : Nat) : (missN p l c n).length ≤ n := by
  unfold missN
  rw [List.length_map]
  exact Nat.le_trans (List.length_filter_le _ _) (by simp)
theorem missP_at {p : Int} {l : List (Int × Int)} {c : List Int} {i : Nat} {z : Int × Int} (h : l[i]? = some z) : missP p l c i ↔ ¬ val p c z.1 = z.2 := by
  have e : l.getD i (0, 0) = z := by simp [h]
  unfold missP pxD
  rw [e]
set_option maxRecDepth 100000 in
theorem misses_ok {v : Value} {l : List (Int × Int)} {ok : Nat → Prop} (hr : RdK (kP kI kI) W H ok v l) {vc : Value} {c : List Int} {okc : Nat → Prop} {p : Int} (hrc : RdK kI W H okc vc c) (hv : vS p l) (hc : elems p c) : ACalls Tryz.prog W 34 #[.int .i64 p, v, vc] H (fun r H' => Ext H H' ∧ OwnK kI 2 W H' (fun b => H.bd ≤ b) r (missL p l c)) := by
  refine ACalls.of (args := [.int .i64 p, v, vc]) Tryz.func34 rfl rfl ?_
  have X0 := Ext.refl H
  have hm1 := hr.max
  have hm2 := hrc.max
  have hp := hv.1.1
  have hl10 := vS_len hv
  refine AW.rs ?_
  refine AL.val rfl (.inl rfl) (HV.as rfl) ?_
  refine AL.nx ?_
  refine AW.rs ?_
  have o3 := X0.bd
  refine AL.w rfl (.inl rfl) (WV.bsK (K := kI) (l := ([] : List Int)) (css := []) sl25 rfl rfl (by first | rfl | (simp [Instr.fill, Value.cells, kI, kB, kU, kU8, kS, Kd.sc]; done) | (simp [Instr.fill, Value.cells, kI, kB, kU, kU8, kS, Kd.sc, rng1, rng2, rng3, rng4, kP])) rfl segs_nil) ?_
  rintro v4 H5 ⟨hx6, ho7⟩
  have X8 := Ext.trans X0 hx6
  refine AL.val rfl (.inl rfl) (HV.as rfl) ?_
  refine AL.nx ?_
  refine AW.seq ?_
  refine AW.rs ?_
  refine AL.val rfl (.inl rfl) (HV.as rfl) ?_
  refine AL.nx ?_
  refine AW.block ?_
  refine AW.loop (σ := Nat × Value) (fun ⟨i, vv⟩ => [(0, .int .i64 p), (1, v), (2, vc), (6, (.slice none 0 0)), (7, vv), (8, .int .i64 (i : Int))]) (fun ⟨i, vv⟩ H' => Ext H H' ∧ i ≤ l.length ∧ OwnK kI 2 W H' (fun b => H.bd ≤ b) vv (missN p l c i) ∧ True) (fun ⟨i, vv⟩ => l.length - i) (0, v4) ⟨X8, Nat.zero_le _, ho7, trivial⟩ ⟨rfl, rfl, rfl, rfl, rfl, rfl, trivial⟩ ?_
  rintro ⟨i, vv⟩ H10 ⟨X11, hi, hoL, _⟩
  have hml := missN_len p l c i
  refine AW.seq ?_
  refine AW.rs ?_
  refine AL.val rfl (.inl rfl) (HV.mv rfl) ?_
  refine AL.val rfl (.inl rfl) (HV.mv rfl) ?_
  refine AL.val rfl (.inl rfl) (HV.len Tryz.underlying28 rfl hr.isSl) ?_
  refine AL.val rfl (.inl rfl) (HV.lti rfl rfl) ?_
  refine AL.nx ?_
  refine AW.ifd rfl (fun c12 => ?_) (fun c12 => ?_)
  · -- then
    refine AW.skip ?_
    refine nrm_and ?_
    refine AW.seq ?_
    refine AW.block ?_
    refine AW.seq ?_
    refine AW.draw' [0, 0, 0, 0, 12, 28, 60, 127, 0, 0, 768, 1792, 3840, 8191] mixed (by rfl) ?_
    refine Dr.read 0 _ 16 _ rfl rfl rfl rfl rfl (RV.of (by intro _ _ h; cases h) (.inl rfl) (fun _ xd => HV.mv rfl)) ?_
    refine Dr.read 1 _ 17 _ rfl rfl rfl rfl rfl (RV.of (by intro _ _ h; cases h) (.inl rfl) (fun _ xd => HV.mv rfl)) ?_
    refine Dr.read 2 _ 18 _ rfl rfl rfl rfl rfl (RV.of (by intro _ _ h; cases h) (.inl rfl) (fun _ xd => HV.mv rfl)) ?_
    refine Dr.read 3 _ 19 _ rfl rfl rfl rfl rfl (RV.of (by intro _ _ h; cases h) (.inl rfl) (fun _ xd => HV.mv rfl)) ?_
    obtain ⟨p13, z14, cs15, hz16, hK17, hC18, hP19⟩ := RdK.ix (q := (i : Int)) hr sl28 (by omega) (by omega)
    obtain ⟨cs20, cs21, rfl, hK22, hK23⟩ := hK17
    obtain rfl : cs20 = [.int .i64 z14.1] := hK22
    obtain rfl : cs21 = [.int .i64 z14.2] := hK23
    refine Dr.read 4 _ 20 _ rfl rfl rfl rfl rfl (RV.of (by intro _ _ h; cases h) (.inl rfl) (fun _ xd => hP19 rfl rfl)) ?_
    refine Dr.read 5 _ 21 _ rfl rfl rfl rfl rfl (RV.of (by intro _ _ h; cases h) (.inl rfl) (fun _ xd => HV.fa fl36_0 rfl)) ?_
    have y20 := vS_px hv (show i < l.length by omega)
    rw [px_at hz16] at y20
    refine Dr.read 6 _ 22 _ rfl rfl rfl rfl rfl (RV.of (by intro _ _ h; cases h) (.inl rfl) (fun _ xd => HV.ld rfl va2 (rdc_ext xd (cells_first (hC18.ext X11) rfl)))) ?_
    refine Dr.read 8 _ 24 _ rfl rfl rfl rfl rfl (RV.of (by intro _ _ h; cases h) (.inl rfl) (fun _ xd => HV.mv rfl)) ?_
    refine Dr.read 9 _ 25 _ rfl rfl rfl rfl rfl (RV.of (by intro _ _ h; cases h) (.inl rfl) (fun _ xd => HV.mv rfl)) ?_
    obtain ⟨p24, z25, cs26, hz27, hK28, hC29, hP30⟩ := RdK.ix (q := (i : Int)) hr sl28 (by omega) (by omega)
    obtain ⟨cs31, cs32, rfl, hK33, hK34⟩ := hK28
    obtain rfl : cs31 = [.int .i64 z25.1] := hK33
    obtain rfl : cs32 = [.int .i64 z25.2] := hK34
    refine Dr.read 10 _ 26 _ rfl rfl rfl rfl rfl (RV.of (by intro _ _ h; cases h) (.inl rfl) (fun _ xd => hP30 rfl rfl)) ?_
    refine Dr.read 11 _ 27 _ rfl rfl rfl rfl rfl (RV.of (by intro _ _ h; cases h) (.inl rfl) (fun _ xd => HV.fa fl36_1 rfl)) ?_
    refine Dr.read 12 _ 28 _ rfl rfl rfl rfl rfl (RV.of (by intro _ _ h; cases h) (.inl rfl) (fun _ xd => HV.ld rfl va2 (rdc_ext xd (cells_at (hC29.ext X11) rfl)))) ?_
    refine Dr.eff 7 _ _ rfl (by intro d h; cases h; exact ⟨rfl, rfl⟩) rfl rfl rfl (EC.of (by intro _ _ h; cases h) (.inl rfl) (WV.call fn44 rfl (l05Val_ok (hrc.ext X11) z14.1 hp (by omega) hc))) (fun v H' h => .inl (h.2)) ?_
    rintro _ H35 ⟨rfl, hx36⟩
    have X37 := Ext.trans X11 hx36
    have ho38 := hoL.ext hx36
    refine Dr.read 13 _ 29 _ rfl rfl rfl rfl rfl (RV.of (by intro _ _ h; cases h) (.inl rfl) (fun _ xd => HV.nei rfl rfl)) ?_
    refine Dr.fin rfl ?_
    refine nrm_and ?_
    refine AW.ifd rfl (fun c39 => ?_) (fun c39 => ?_)
    · -- then
      refine AW.reg ?_
      refine AL.val rfl (.inl rfl) (HV.mv rfl) ?_
      refine AL.val rfl (.inl rfl) (HV.mv rfl) ?_
      have X40 := Ext.refl H35
      have o41 := X37.bd
      have o42 := X40.bd
      have a43 := ho38.ltb
      refine AL.w rfl (.inl rfl) (WV.bsK (K := kI) (l := ([(i : Int)] : List Int)) (css := [[.int .i64 (i : Int)]]) sl25 rfl rfl (by first | rfl | (simp [Instr.fill, Value.cells, kI, kB, kU, kU8, kS, Kd.sc]; done) | (simp [Instr.fill, Value.cells, kI, kB, kU, kU8, kS, Kd.sc, rng1, rng2, rng3, rng4, kP])) rfl (segs_cons rfl segs_nil)) ?_
      rintro v44 H45 ⟨hx46, ho47⟩
      have X48 := Ext.trans X37 hx46
      have X49 := Ext.trans X40 hx46
      have ho50 := ho38.ext hx46
      have X52 := Ext.refl H45
      refine AL.w rfl (.inl rfl) (WV.apk sl25 rfl rfl ho50 ho47.rd (by simp only [List.length_singleton]; omega) (by simp only [List.length_singleton]; omega) (fun b hb _ e => Nat.lt_irrefl _ (Nat.lt_of_lt_of_le (a43 b e) hb))) ?_
      rintro v53 H54 ⟨hx55, ho56, hb57⟩
      have ho58 := ho56.narrow (ok' := fun b => H.bd ≤ b) kI_flat (fun b q => (hb57 b q).elim (fun e => (ho50.blk b e).1) (fun e => Nat.le_trans X48.bd e))
      have X59 := Ext.thru X48 hx55 (fun b hb => Nat.le_trans o3 (ho50.blk b hb).1)
      refine AL.val rfl (.inl rfl) (HV.as rfl) ?_
      refine AL.nil ?_
      refine nrm_blk (nrm_and ?_)
      refine AW.reg ?_
      refine AL.val rfl (.inl rfl) (HV.mv rfl) ?_
      refine AL.val rfl (.inl rfl) (HV.add rfl rfl (by omega)) ?_
      refine AL.val rfl (.inl rfl) (HV.as rfl) ?_
      refine AL.nil ?_
      refine nrm_and ?_
      exact ⟨(i + 1, v53), ⟨X59, by omega, by rw [missN_y (by rw [missP_at (getq hz16 rfl)]; rw [show z25 = z14 from Option.some.inj (hz27.symm.trans hz16)] at *; exact c39)]; exact ho58, trivial⟩, by first | omega | (dsimp only; omega), ⟨rfl, rfl, rfl, rfl, rfl, rfl, trivial⟩⟩
    · -- else
      refine AW.skip ?_
      refine nrm_blk (nrm_and ?_)
      refine AW.reg ?_
      refine AL.val rfl (.inl rfl) (HV.mv rfl) ?_
      refine AL.val rfl (.inl rfl) (HV.add rfl rfl (by omega)) ?_
      refine AL.val rfl (.inl rfl) (HV.as rfl) ?_
      refine AL.nil ?_
      refine nrm_and ?_
      exact ⟨(i + 1, vv), ⟨X37, by omega, by rw [missN_n (by rw [missP_at (getq hz16 rfl)]; rw [show z25 = z14 from Option.some.inj (hz27.symm.trans hz16)] at *; exact fun q => c39 q)]; exact ho38, trivial⟩, by first | omega | (dsimp only; omega), ⟨rfl, rfl, rfl, rfl, rfl, rfl, trivial⟩⟩
  · -- else
    refine AW.exit ?_
    refine ex_and (ex_and (ex_blk ?_))
    refine nrm_and ?_
    refine AW.rs ?_
    refine AL.val rfl (.inl rfl) (HV.mv rfl) ?_
    refine AL.val rfl (.inl rfl) (HV.as rfl) ?_
    refine AL.nx ?_
    refine AW.ret ?_
    refine post_one rfl rfl ?_ (.inr rfl)
    exact ⟨X11, by have q := hoL.okk (fun b hb _ => Nat.le_trans o3 hb); rw [show i = l.length by omega] at q; exact q⟩

set_option maxRecDepth 100000 in
theorem wrong_ok {v : Value} {l : List (Int × Int)} {ok : Nat → Prop} (hr : RdK (kP kI kI) W H ok v l) {vc : Value} {c : List Int} {okc : Nat → Prop} {p : Int} (hrc : RdK kI W H okc vc c) (hv : vS p l) (hc : elems p c) : ACalls Tryz.prog W 30 #[.int .i64 p, v, vc] H (fun r H' => Ext H H' ∧ OwnK kI 2 W H' (fun b => H.bd ≤ b) r (missL p l c)) := by
  refine ACalls.of (args := [.int .i64 p, v, vc]) Tryz.func30 rfl rfl ?_
  have X0 := Ext.refl H
  have hm1 := hr.max
  have hm2 := hrc.max
  have hp := hv.1.1
  have hl10 := vS_len hv
  refine AW.rs ?_
  refine AL.val rfl (.inl rfl) (HV.as rfl) ?_
  refine AL.nx ?_
  refine AW.rs ?_
  have o3 := X0.bd
  refine AL.w rfl (.inl rfl) (WV.bsK (K := kI) (l := ([] : List Int)) (css := []) sl25 rfl rfl (by first | rfl | (simp [Instr.fill, Value.cells, kI, kB, kU, kU8, kS, Kd.sc]; done) | (simp [Instr.fill, Value.cells, kI, kB, kU, kU8, kS, Kd.sc, rng1, rng2, rng3, rng4, kP])) rfl segs_nil) ?_
  rintro v4 H5 ⟨hx6, ho7⟩
  have X8 := Ext.trans X0 hx6
  refine AL.val rfl (.inl rfl) (HV.as rfl) ?_
  refine AL.nx ?_
  refine AW.seq ?_
  refine AW.rs ?_
  refine AL.val rfl (.inl rfl) (HV.mv rfl) ?_
  refine AL.val rfl (.inl rfl) (HV.len Tryz.underlying28 rfl hr.isSl) ?_
  refine AL.val rfl (.inl rfl) (HV.mv rfl) ?_
  refine AL.nx ?_
  refine AW.block ?_
  have ho10 := ho7.narrow (ok' := fun b => H.bd ≤ b ∧ some b = v4.ownBlock) kI_flat (fun b q => ⟨(ho7.blk b q).1, q⟩)
  refine AW.loop (σ := Nat × Value) (fun ⟨i, vv⟩ => [(0, .int .i64 p), (2, vc), (6, (.slice none 0 0)), (11, v), (12, .int .i64 (l.length : Int)), (7, vv), (13, .int .i64 (i : Int))]) (fun ⟨i, vv⟩ H' => Ext H H' ∧ i ≤ l.length ∧ OwnK kI 2 W H' (fun b => H.bd ≤ b ∧ some b = vv.ownBlock) vv (missN p l c i) ∧ True) (fun ⟨i, vv⟩ => l.length - i) (0, v4) ⟨X8, Nat.zero_le _, ho10, trivial⟩ ⟨rfl, rfl, rfl, rfl, rfl, rfl, rfl, trivial⟩ ?_
  rintro ⟨i, vv⟩ H11 ⟨X12, hi, hoL, _⟩
  have hml := missN_len p l c i
  refine AW.rs ?_
  refine AL.val rfl (.inl rfl) (HV.lti rfl rfl) ?_
  refine AL.nx ?_
  refine AW.seq ?_
  refine AW.ifd rfl (fun c13 => ?_) (fun c13 => ?_)
  · -- then
    refine AW.skip ?_
    refine nrm_and ?_
    refine AW.seq ?_
    refine AW.block ?_
    refine AW.rs ?_
    refine AL.val rfl (.inl rfl) (HV.mv rfl) ?_
    obtain ⟨p14, z15, cs16, hz17, hK18, hC19, hP20⟩ := RdK.ix (q := (i : Int)) hr sl28 (by omega) (by omega)
    obtain ⟨cs21, cs22, rfl, hK23, hK24⟩ := hK18
    obtain rfl : cs21 = [.int .i64 z15.1] := hK23
    obtain rfl : cs22 = [.int .i64 z15.2] := hK24
    refine AL.val rfl (.inl rfl) (hP20 rfl rfl) ?_
    refine AL.val rfl (.inl rfl) (HV.lda (cs := [.int .i64 z15.1, .int .i64 z15.2]) rfl va36 (hC19.ext X12)) ?_
    have a30 := hoL.ltb
    refine AL.w rfl (.inl rfl) (WV.al ze36 rfl) ?_
    rintro _ H26 ⟨b25, rfl, hx27, hn28, hb29⟩
    have o31 := Nat.le_trans X12.bd hn28
    have a32 : ∀ b', some b' = vv.ownBlock → b' = b25 → False := fun b' h1 h2 => by have x1 := a30 b' h1; have x2 := hn28; omega
    have X33 := Ext.trans X12 hx27
    have ho34 := hoL.ext hx27
    have X35 := Ext.refl H26
    refine AL.val rfl (.inl rfl) (HV.as rfl) ?_
    refine AL.w0 (.inl rfl) (WV.st rfl rfl va36 rfl hb29 (Nat.le_of_ble_eq_true rfl) (one_cons rfl (one_cons rfl one_nil))) ?_
    rintro _ H36 ⟨hx37, hb38⟩
    have X39 := Ext.thru X33 hx37 (fun z_ hz_ => by rw [hz_]; exact o31)
    have ho41 := ho34.but hx37 (fun b hb _ e => a32 b hb.2 e) (fun z_ hz_ => by rw [hz_]; exact hb29.w)
    have hb42 : At W H36 b25 ⟨36, [.int .i64 z15.1, .int .i64 z15.2], 2⟩ := hb38
    refine AL.nx ?_
    refine AW.seq ?_
    refine AW.draw' [0, 0, 0, 4, 15, 0, 32, 127] mixed (by rfl) ?_
    have y16 := vS_px hv (show i < l.length by omega)
    rw [px_at hz17] at y16
    refine Dr.read 0 _ 18 _ rfl rfl rfl rfl rfl (RV.of (by intro _ _ h; cases h) (.inl rfl) (fun _ xd => HV.mv rfl)) ?_
    refine Dr.read 1 _ 19 _ rfl rfl rfl rfl rfl (RV.of (by intro _ _ h; cases h) (.inl rfl) (fun _ xd => HV.mv rfl)) ?_
    refine Dr.read 2 _ 20 _ rfl rfl rfl rfl rfl (RV.of (by intro _ _ h; cases h) (.inl rfl) (fun _ xd => HV.fa fl36_0 rfl)) ?_
    refine Dr.read 3 _ 21 _ rfl rfl rfl rfl rfl (RV.of (by intro _ _ h; cases h) (.inl rfl) (fun _ xd => HV.ld rfl va2 (rdc_ext xd (at_cell hb42 rfl)))) ?_
    refine Dr.read 5 _ 23 _ rfl rfl rfl rfl rfl (RV.of (by intro _ _ h; cases h) (.inl rfl) (fun _ xd => HV.fa fl36_1 rfl)) ?_
    refine Dr.read 6 _ 24 _ rfl rfl rfl rfl rfl (RV.of (by intro _ _ h; cases h) (.inl rfl) (fun _ xd => HV.ld rfl va2 (rdc_ext xd (at_cell_add (j := 1) hb42 rfl)))) ?_
    refine Dr.eff 4 _ _ rfl (by intro d h; cases h; exact ⟨rfl, rfl⟩) rfl rfl rfl (EC.of (by intro _ _ h; cases h) (.inl rfl) (WV.call fn37 rfl (curveAt_ok (hrc.ext X39) z15.1 hp (by omega) hc))) (fun v H' h => .inl (h.2)) ?_
    rintro _ H43 ⟨rfl, hx44⟩
    have X45 := Ext.trans X39 hx44
    have ho46 := ho41.ext hx44
    have hb47 := hb42.ext hx44
    refine Dr.read 7 _ 25 _ rfl rfl rfl rfl rfl (RV.of (by intro _ _ h; cases h) (.inl rfl) (fun _ xd => HV.nei rfl rfl)) ?_
    refine Dr.fin rfl ?_
    refine nrm_and ?_
    refine AW.ifd rfl (fun c48 => ?_) (fun c48 => ?_)
    · -- then
      refine AW.reg ?_
      refine AL.val rfl (.inl rfl) (HV.mv rfl) ?_
      refine AL.val rfl (.inl rfl) (HV.mv rfl) ?_
      have X49 := Ext.refl H43
      have y50 := hb47.lt
      have o51 := X45.bd
      have o52 := X49.bd
      have a53 := ho46.ltb
      refine AL.w rfl (.inl rfl) (WV.bsK (K := kI) (l := ([(i : Int)] : List Int)) (css := [[.int .i64 (i : Int)]]) sl25 rfl rfl (by first | rfl | (simp [Instr.fill, Value.cells, kI, kB, kU, kU8, kS, Kd.sc]; done) | (simp [Instr.fill, Value.cells, kI, kB, kU, kU8, kS, Kd.sc, rng1, rng2, rng3, rng4, kP])) rfl (segs_cons rfl segs_nil)) ?_
      rintro v54 H55 ⟨hx56, ho57⟩
      have X58 := Ext.trans X45 hx56
      have X59 := Ext.trans X49 hx56
      have ho60 := ho46.ext hx56
      have hb61 := hb47.ext hx56
      have X63 := Ext.refl H55
      refine AL.w rfl (.inl rfl) (WV.apk sl25 rfl rfl ho60 ho57.rd (by simp only [List.length_singleton]; omega) (by simp only [List.length_singleton]; omega) (fun b hb _ e => Nat.lt_irrefl _ (Nat.lt_of_lt_of_le (a53 b e) hb))) ?_
      rintro v64 H65 ⟨hx66, ho67, hb68⟩
      have ho69 := ho67.narrow (ok' := fun b => H.bd ≤ b ∧ some b = v64.ownBlock) kI_flat (fun b q => ⟨(hb68 b q).elim (fun e => (ho60.blk b e).1.1) (fun e => Nat.le_trans X58.bd e), q⟩)
      have a70 : ∀ b', some b' = v64.ownBlock → b' = b25 → False := fun b' h1 h2 => (hb68 b' h1).elim (fun e => a32 b' e h2) (fun e => by have := hb61.lt; omega)
      have X71 := Ext.thru X58 hx66 (fun b hb => Nat.le_trans o3 (ho60.blk b hb).1.1)
      have ho74 := ho57.but hx66 (fun b hb _ e => Nat.lt_irrefl _ (Nat.lt_of_lt_of_le (a53 b e) hb)) (fun b hb => (ho60.blk b hb).2.2)
      have hb75 := hb61.but hx66 (fun e => a32 _ e rfl)
      refine AL.val rfl (.inl rfl) (HV.as rfl) ?_
      refine AL.nil ?_
      refine nrm_blk (nrm_and ?_)
      refine AW.reg ?_
      refine AL.val rfl (.inl rfl) (HV.add rfl rfl (by omega)) ?_
      refine AL.val rfl (.inl rfl) (HV.mv rfl) ?_
      refine AL.nil ?_
      refine nrm_and ?_
      exact ⟨(i + 1, v64), ⟨X71, by omega, by rw [missN_y (by rw [missP_at (getq hz17 rfl)]; exact c48)]; exact ho69, trivial⟩, by first | omega | (dsimp only; omega), ⟨rfl, rfl, rfl, rfl, rfl, rfl, rfl, trivial⟩⟩
    · -- else
      refine AW.skip ?_
      refine nrm_blk (nrm_and ?_)
      refine AW.reg ?_
      refine AL.val rfl (.inl rfl) (HV.add rfl rfl (by omega)) ?_
      refine AL.val rfl (.inl rfl) (HV.mv rfl) ?_
      refine AL.nil ?_
      refine nrm_and ?_
      exact ⟨(i + 1, vv), ⟨X45, by omega, by rw [missN_n (by rw [missP_at (getq hz17 rfl)]; exact fun q => c48 q)]; exact ho46, trivial⟩, by first | omega | (dsimp only; omega), ⟨rfl, rfl, rfl, rfl, rfl, rfl, rfl, trivial⟩⟩
  · -- else
    refine AW.exit ?_
    refine ex_and (ex_and (ex_blk ?_))
    refine nrm_and ?_
    refine AW.rs ?_
    refine AL.val rfl (.inl rfl) (HV.mv rfl) ?_
    refine AL.val rfl (.inl rfl) (HV.as rfl) ?_
    refine AL.nx ?_
    refine AW.ret ?_
    refine post_one rfl rfl ?_ (.inr rfl)
    exact ⟨X12, by have q := hoL.okk (ok' := fun b => H.bd ≤ b) (fun b hb _ => Nat.le_trans o3 hb.1); rw [show i = l.length by omega] at q; exact q⟩

set_option maxRecDepth 100000 in
theorem same_ok {v v2 : Value} {l m : List Int} {ok ok2 : Nat → Prop} (hr : RdK kI W H ok v l) (hr2 : RdK kI W H ok2 v2 m) : ACalls Tryz.prog W 103 #[v, v2] H (fun r H' => r = .bool (decide (l = m)) ∧ Ext H H') := by
  refine ACalls.of (args := [v, v2]) Tryz.func103 rfl rfl ?_
  have X0 := Ext.refl H
  have hm1 := hr.max
  have hm2 := hr2.max
  refine AW.rs ?_
  refine AL.val rfl (.inl rfl) (HV.as rfl) ?_
  refine AL.nx ?_
  refine AW.seq ?_
  refine AW.rs ?_
  refine AL.val rfl (.inl rfl) (HV.mv rfl) ?_
  refine AL.val rfl (.inl rfl) (HV.len Tryz.underlying25 rfl hr.isSl) ?_
  refine AL.val rfl (.inl rfl) (HV.mv rfl) ?_
  refine AL.val rfl (.inl rfl) (HV.len Tryz.underlying25 rfl hr2.isSl) ?_
  refine AL.val rfl (.inl rfl) (HV.nei rfl rfl) ?_
  refine AL.nx ?_
  refine AW.ifd rfl (fun c3 => ?_) (fun c3 => ?_)
  · -- then
    refine AW.rs ?_
    refine AL.val rfl (.inl rfl) (HV.as rfl) ?_
    refine AL.nx ?_
    refine AW.ret ?_
    refine ret_and ?_
    refine post_one rfl rfl ?_ (.inr rfl)
    exact ⟨dec_f (fun e => by subst e; omega), X0⟩
  · -- else
    refine AW.skip ?_
    refine nrm_and ?_
    refine AW.seq ?_
    refine AW.rs ?_
    refine AL.val rfl (.inl rfl) (HV.as rfl) ?_
    refine AL.nx ?_
    refine AW.block ?_
    refine AW.loop (σ := Nat) (fun i => [(0, v), (1, v2), (5, .int .i64 (i : Int))]) (fun i H' => Ext H H' ∧ i ≤ l.length ∧ (∀ j, j < i → l.getD j 0 = m.getD j 0) ∧ True) (fun i => l.length - i) 0 ⟨X0, Nat.zero_le _, fun j hj => absurd hj (Nat.not_lt_zero _), trivial⟩ ⟨rfl, rfl, rfl, trivial⟩ ?_
    rintro i H4 ⟨X5, hi, he, _⟩
    refine AW.seq ?_
    refine AW.rs ?_
    refine AL.val rfl (.inl rfl) (HV.mv rfl) ?_
    refine AL.val rfl (.inl rfl) (HV.mv rfl) ?_
    refine AL.val rfl (.inl rfl) (HV.len Tryz.underlying25 rfl hr.isSl) ?_
    refine AL.val rfl (.inl rfl) (HV.lti rfl rfl) ?_
    refine AL.nx ?_
    refine AW.ifd rfl (fun c6 => ?_) (fun c6 => ?_)
    · -- then
      refine AW.skip ?_
      refine nrm_and ?_
      refine AW.seq ?_
      refine AW.block ?_
      refine AW.seq ?_
      refine AW.draw' [0, 0, 3, 7, 0, 0, 48, 112, 255] mixed (by rfl) ?_
      refine Dr.read 0 _ 17 _ rfl rfl rfl rfl rfl (RV.of (by intro _ _ h; cases h) (.inl rfl) (fun _ xd => HV.mv rfl)) ?_
      refine Dr.read 1 _ 18 _ rfl rfl rfl rfl rfl (RV.of (by intro _ _ h; cases h) (.inl rfl) (fun _ xd => HV.mv rfl)) ?_
      obtain ⟨p7, z8, cs9, hz10, hK11, hC12, hP13⟩ := RdK.ix (q := (i : Int)) hr sl25 (by omega) (by omega)
      obtain rfl : cs9 = [.int .i64 z8] := hK11
      refine Dr.read 2 _ 19 _ rfl rfl rfl rfl rfl (RV.of (by intro _ _ h; cases h) (.inl rfl) (fun _ xd => hP13 rfl rfl)) ?_
      refine Dr.read 3 _ 20 _ rfl rfl rfl rfl rfl (RV.of (by intro _ _ h; cases h) (.inl rfl) (fun _ xd => HV.ld rfl va2 (rdc_ext xd (cells_first (hC12.ext X5) rfl)))) ?_
      refine Dr.read 4 _ 21 _ rfl rfl rfl rfl rfl (RV.of (by intro _ _ h; cases h) (.inl rfl) (fun _ xd => HV.mv rfl)) ?_
      refine Dr.read 5 _ 22 _ rfl rfl rfl rfl rfl (RV.of (by intro _ _ h; cases h) (.inl rfl) (fun _ xd => HV.mv rfl)) ?_
      obtain ⟨p14, z15, cs16, hz17, hK18, hC19, hP20⟩ := RdK.ix (q := (i : Int)) hr2 sl25 (by omega) (by omega)
      obtain rfl : cs16 = [.int .i64 z15] := hK18
      refine Dr.read 6 _ 23 _ rfl rfl rfl rfl rfl (RV.of (by intro _ _ h; cases h) (.inl rfl) (fun _ xd => hP20 rfl rfl)) ?_
      refine Dr.read 7 _ 24 _ rfl rfl rfl rfl rfl (RV.of (by intro _ _ h; cases h) (.inl rfl) (fun _ xd => HV.ld rfl va2 (rdc_ext xd (cells_first (hC19.ext X5) rfl)))) ?_
      refine Dr.read 8 _ 25 _ rfl rfl rfl rfl rfl (RV.of (by intro _ _ h; cases h) (.inl rfl) (fun _ xd => HV.nei rfl rfl)) ?_
      refine Dr.fin rfl ?_
      refine nrm_and ?_
      refine AW.ifd rfl (fun c21 => ?_) (fun c21 => ?_)
      · -- then
        refine AW.rs ?_
        refine AL.val rfl (.inl rfl) (HV.as rfl) ?_
        refine AL.nx ?_
        refine AW.ret ?_
        refine ret_blk (ret_and (ret_and (ret_blk (ret_and ?_))))
        refine post_one rfl rfl ?_ (.inr rfl)
        exact ⟨dec_f (fun e => by subst e; have g20 : l.getD i 0 = z8 := gd hz10 (by omega); have g24 : l.getD i 0 = z15 := gd hz17 (by omega); omega), X5⟩
      · -- else
        refine AW.skip ?_
        refine nrm_blk (nrm_and ?_)
        refine AW.reg ?_
        refine AL.val rfl (.inl rfl) (HV.mv rfl) ?_
        refine AL.val rfl (.inl rfl) (HV.add rfl rfl (by omega)) ?_
        refine AL.val rfl (.inl rfl) (HV.as rfl) ?_
        refine AL.nil ?_
        refine nrm_and ?_
        exact ⟨i + 1, ⟨X5, by omega, fun j hj => by
      rcases Nat.lt_or_ge j i with h1 | h1
      · exact he j h1
      · obtain rfl : j = i := by omega
        have g19 : l.getD j 0 = z8 := gd hz10 (by omega); have g23 : m.getD j 0 = z15 := gd hz17 (by omega); omega, trivial⟩, by first | omega | (dsimp only; omega), ⟨rfl, rfl, rfl, trivial⟩⟩
    · -- else
      refine AW.exit ?_
      refine ex_and (ex_and (ex_blk ?_))
      refine nrm_and ?_
      refine AW.rs ?_
      refine AL.val rfl (.inl rfl) (HV.as rfl) ?_
      refine AL.nx ?_
      refine AW.ret ?_
      refine post_one rfl rfl ?_ (.inr rfl)
      exact ⟨dec_t (list_eq (by omega) (fun j hj => he j (by omega))), X5⟩
end Go.Proofs.YtbjcgcililpfdaaGreat.VC

