/- Walks. -/
import Derived.Test.YtbjcgcililpfdaaGreatZN14
set_option linter.unusedVariables false
set_option linter.unusedSimpArgs false
namespace Go.Proofs.YtbjcgcililpfdaaGreat.VC
open Go Go.RowKit
variable {W : World} {H : Hp}

/-! ### Words of at most ten bits -/
theorem shl10 {n : Nat} (h : n ≤ 10) : IntKind.u64.wrap (1 * 2 ^ min ((n : Int)).toNat IntKind.u64.bits) = ((2 ^ n : Nat) : Int) := by
  have := (by decide +kernel : ∀ n : Fin 11, IntKind.u64.wrap (1 * 2 ^ min ((n.val : Int)).toNat IntKind.u64.bits) = ((2 ^ n.val : Nat) : Int)) ⟨n, by omega⟩
  exact this
theorem shr10 (s : Nat) {j : Nat} (h : j < 60) : (s : Int).fdiv (2 ^ min ((j : Int) : Int).toNat IntKind.u64.bits) = ((s / 2 ^ j : Nat) : Int) := by
  rw [Int.toNat_natCast, show min j IntKind.u64.bits = j from Nat.min_eq_left (by simp only [IntKind.bits]; omega)]
  rw [Int.fdiv_eq_ediv_of_nonneg _ (Int.le_of_lt (Int.pow_pos (by decide)))]
  rw [show ((2 : Int) ^ j) = ((2 ^ j : Nat) : Int) by simp]
  rfl
theorem bit10 {s j : Nat} (hs : s < 1024) : bt .and .u64 ((s / 2 ^ j : Nat) : Int) 1 = ((s / 2 ^ j % 2 : Nat) : Int) := by
  have := (by decide +kernel : ∀ a : Fin 1024, bt .and .u64 ((a.val : Nat) : Int) 1 = ((a.val % 2 : Nat) : Int)) ⟨s / 2 ^ j, Nat.lt_of_le_of_lt (Nat.div_le_self _ _) hs⟩
  exact this
theorem two10 {n : Nat} (h : n ≤ 10) : 2 ^ n ≤ 1024 := Nat.pow_le_pow_right (n := 2) (by decide) h
set_option maxRecDepth 100000 in
theorem has_ok (s j : Nat) (hs : s < 1024) (hj : j < 10) : ACalls Tryz.prog W 65 #[.int .u64 (s : Int), .int .i64 (j : Int)] H (fun r H' => r = .bool (decide (s / 2 ^ j % 2 = 1)) ∧ Ext H H') := by
  refine ACalls.of (args := [.int .u64 (s : Int), .int .i64 (j : Int)]) Tryz.func65 rfl rfl ?_
  have X0 := Ext.refl H
  refine AW.rs ?_
  refine AL.val rfl (.inl rfl) (HV.as rfl) ?_
  refine AL.nx ?_
  refine AW.rs ?_
  refine AL.val rfl (.inl rfl) (HV.mv rfl) ?_
  refine AL.val rfl (.inl rfl) (HV.mv rfl) ?_
  refine AL.val rfl (.inl rfl) (HV.shr rfl rfl (by omega)) ?_
  refine AL.val rfl (.inl rfl) (HV.bits (by simp) rfl rfl) ?_
  refine AL.val rfl (.inl rfl) (HV.eqi rfl rfl) ?_
  refine AL.val rfl (.inl rfl) (HV.as rfl) ?_
  refine AL.nx ?_
  refine AW.ret ?_
  refine post_one rfl rfl ?_ (.inr rfl)
  exact ⟨congrArg Value.bool (decide_eq_decide.2 (by rw [shr10 s (by omega), bit10 hs]; omega)), X0⟩

set_option maxRecDepth 100000 in
theorem choices_ok {bp bs ba bo B : Nat} {vs vo : Value} {l : List (Int × Int)} {p ag : Int} (hrs : RdK (kP kI kI) W H (fun b => b < B) vs l) (ho : OwnD (kO 2 kI) 25 W H (fun b => B ≤ b ∧ b ≠ bo) vo []) (hbp : At W H bp ⟨2, [.int .i64 p], 1⟩) (hbs : At W H bs ⟨28, [vs], 1⟩) (hba : At W H ba ⟨2, [.int .i64 ag], 1⟩) (hbo : At W H bo ⟨37, [vo], 1⟩) (hB : (bp < B ∧ bs < B ∧ ba < B) ∧ B ≤ bo) (hv : vS p l) {dm : Nat} : ACalls Tryz.prog W 47 #[vs, .int .i64 (dm : Int), (.func (.func 48) #[] #[.pointer (some ⟨bp, 0, none⟩), .pointer (some ⟨bs, 0, none⟩), .pointer (some ⟨ba, 0, none⟩), .pointer (some ⟨bo, 0, none⟩)])] H (fun r H' => (∃ v', At W H' bo ⟨37, [v'], 1⟩ ∧ OwnD (kO 2 kI) 25 W H' (fun b => B ≤ b ∧ b ≠ bo) v' (nrC p l ag dm (2 ^ l.length))) ∧ But (fun b => B ≤ b) H H') := by
  refine ACalls.of (args := [vs, .int .i64 (dm : Int), (.func (.func 48) #[] #[.pointer (some ⟨bp, 0, none⟩), .pointer (some ⟨bs, 0, none⟩), .pointer (some ⟨ba, 0, none⟩), .pointer (some ⟨bo, 0, none⟩)])]) Tryz.func47 rfl rfl ?_
  have X0 := Ext.refl H
  have hm1 := hrs.max
  have hl10 := vS_len hv
  have h2n := two10 hl10
  have hsh := shl10 hl10
  refine AW.rs ?_
  refine AL.val rfl (.inl rfl) (HV.as rfl) ?_
  refine AL.nx ?_
  refine AW.block ?_
  refine AW.loop (σ := Nat × Value) (fun ⟨m, vv⟩ => [(0, vs), (1, .int .i64 (dm : Int)), (2, (.func (.func 48) #[] #[.pointer (some ⟨bp, 0, none⟩), .pointer (some ⟨bs, 0, none⟩), .pointer (some ⟨ba, 0, none⟩), .pointer (some ⟨bo, 0, none⟩)])), (6, .int .u64 (m : Int))]) (fun ⟨m, vv⟩ H' => m ≤ 2 ^ l.length ∧ But (fun b => B ≤ b) H H' ∧ At W H' bo ⟨37, [vv], 1⟩ ∧ OwnD (kO 2 kI) 25 W H' (fun b => B ≤ b ∧ b ≠ bo) vv (nrC p l ag dm m) ∧ True) (fun ⟨m, vv⟩ => 2 ^ l.length - m) (0, vo) ⟨Nat.zero_le _, But.refl _ _, hbo, ho, trivial⟩ ⟨rfl, rfl, rfl, rfl, trivial⟩ ?_
  rintro ⟨m, vv⟩ H2 ⟨hm, hBL, hboL, hDL, _⟩
  have X3 := Ext.refl H2
  have hpW := hbp.w
  have hrsL := hrs.but hBL (fun b hb _ h => by have h1 : b < B := hb; have h2 : B ≤ b := h; omega) (fun b h => by have h2 : B ≤ b := h; omega)
  have hbpL := hbp.but hBL (fun e => by have h2 : B ≤ _ := e; omega)
  have hbsL := hbs.but hBL (fun e => by have h2 : B ≤ _ := e; omega)
  have hbaL := hba.but hBL (fun e => by have h2 : B ≤ _ := e; omega)
  have hon : ones (m : Int) = ((chM l m).length : Nat) ∨ 2 ^ l.length ≤ m := by
      rcases Nat.lt_or_ge m (2 ^ l.length) with h | h
      · exact .inl (ones_ch hl10 h)
      · exact .inr h
  refine AW.seq ?_
  refine AW.rs ?_
  refine AL.val rfl (.inl rfl) (HV.mv rfl) ?_
  refine AL.val rfl (.inl rfl) (HV.mv rfl) ?_
  refine AL.val rfl (.inl rfl) (HV.len Tryz.underlying28 rfl hrsL.isSl) ?_
  refine AL.val rfl (.inl rfl) (HV.shl rfl rfl (by omega)) ?_
  refine AL.val rfl (.inl rfl) (HV.lti rfl rfl) ?_
  refine AL.nx ?_
  refine AW.ifd rfl (fun c4 => ?_) (fun c4 => ?_)
  · -- then
    refine AW.skip ?_
    refine nrm_and ?_
    refine AW.seq ?_
    refine AW.block ?_
    refine AW.seq ?_
    refine AW.rs ?_
    refine AL.val rfl (.inl rfl) (HV.mv rfl) ?_
    refine AL.w rfl (.inl rfl) (WV.call fn64 rfl (size_ok (W := W) (m : Int))) ?_
    rintro _ H5 ⟨rfl, hx6⟩
    have X7 := Ext.trans X3 hx6
    refine AL.val rfl (.inl rfl) (HV.mv rfl) ?_
    refine AL.val rfl (.inl rfl) (HV.nei rfl rfl) ?_
    refine AL.nx ?_
    refine AW.ifd rfl (fun c8 => ?_) (fun c8 => ?_)
    · -- then
      refine AW.exit ?_
      refine ex_and (ex_blk ?_)
      refine nrm_and ?_
      refine AW.reg ?_
      refine AL.val rfl (.inl rfl) (HV.mv rfl) ?_
      refine AL.val rfl (.inl rfl) (HV.addu rfl rfl (by omega)) ?_
      refine AL.val rfl (.inl rfl) (HV.as rfl) ?_
      refine AL.nil ?_
      refine nrm_and ?_
      exact ⟨(m + 1, vv), ⟨by omega, But.trans hBL (Ext.but X7 _), hboL.ext X7, by rw [nrC_n (fun q => by have q1 := q.1; omega)]; exact hDL.ext X7, trivial⟩, by first | omega | (dsimp only; omega), ⟨rfl, rfl, rfl, rfl, trivial⟩⟩
    · -- else
      refine AW.skip ?_
      refine nrm_and ?_
      refine AW.rs ?_
      have X9 := Ext.refl H5
      have o10 := X7.bd
      have o11 := X9.bd
      refine AL.w rfl (.inl rfl) (WV.bsK (K := (kP kI kI)) (l := ([] : List (Int × Int))) (css := []) sl28 rfl rfl (by first | rfl | (simp [Instr.fill, Value.cells, kI, kB, kU, kU8, kS, Kd.sc]; done) | (simp [Instr.fill, Value.cells, kI, kB, kU, kU8, kS, Kd.sc, rng1, rng2, rng3, rng4, kP])) rfl segs_nil) ?_
      rintro v12 H13 ⟨hx14, ho15⟩
      have X16 := Ext.trans X7 hx14
      have X17 := Ext.trans X9 hx14
      refine AL.val rfl (.inl rfl) (HV.as rfl) ?_
      refine AL.nx ?_
      refine AW.seq ?_
      refine AW.rs ?_
      refine AL.val rfl (.inl rfl) (HV.mv rfl) ?_
      refine AL.val rfl (.inl rfl) (HV.len Tryz.underlying28 rfl hrsL.isSl) ?_
      refine AL.val rfl (.inl rfl) (HV.mv rfl) ?_
      refine AL.nx ?_
      refine AW.block ?_
      have ho19 := ho15.narrow (ok' := fun b => H5.bd ≤ b ∧ some b = v12.ownBlock) (kP_flat kI_flat kI_flat) (fun b q => ⟨(ho15.blk b q).1, q⟩)
      refine AW.loop (σ := Nat × Value) (fun ⟨j, vk⟩ => [(0, vs), (1, .int .i64 (dm : Int)), (2, (.func (.func 48) #[] #[.pointer (some ⟨bp, 0, none⟩), .pointer (some ⟨bs, 0, none⟩), .pointer (some ⟨ba, 0, none⟩), .pointer (some ⟨bo, 0, none⟩)])), (6, .int .u64 (m : Int)), (10, .int .u64 (m : Int)), (11, vs), (12, .int .i64 (l.length : Int)), (13, .int .u64 (IntKind.u64.wrap (1 * 2 ^ min ((l.length : Int) : Int).toNat IntKind.u64.bits))), (14, .bool (decide ((m : Int) < (IntKind.u64.wrap (1 * 2 ^ min ((l.length : Int) : Int).toNat IntKind.u64.bits))))), (17, .int .u64 (m : Int)), (18, .int .i64 (ones (m : Int))), (19, .int .i64 (dm : Int)), (20, .bool (decide ((ones (m : Int)) ≠ (dm : Int)))), (21, v12), (22, vs), (23, .int .i64 (l.length : Int)), (7, vk), (24, .int .i64 (j : Int))]) (fun ⟨j, vk⟩ H' => Ext H2 H' ∧ Ext H5 H' ∧ j ≤ l.length ∧ OwnK (kP kI kI) 36 W H' (fun b => H5.bd ≤ b ∧ some b = vk.ownBlock) vk (chM (l.take j) m) ∧ True) (fun ⟨j, vk⟩ => l.length - j) (0, v12) ⟨X16, X17, Nat.zero_le _, ho19, trivial⟩ ⟨rfl, rfl, rfl, rfl, rfl, rfl, rfl, rfl, rfl, rfl, rfl, rfl, rfl, rfl, rfl, rfl, rfl, rfl, trivial⟩ ?_
      rintro ⟨j, vk⟩ H20 ⟨X21, X22, hj, hoK, _⟩
      have hck := (chM_sub (l.take j) m).length_le
      rw [List.length_take] at hck
      refine AW.rs ?_
      refine AL.val rfl (.inl rfl) (HV.lti rfl rfl) ?_
      refine AL.nx ?_
      refine AW.seq ?_
      refine AW.ifd rfl (fun c23 => ?_) (fun c23 => ?_)
      · -- then
        refine AW.skip ?_
        refine nrm_and ?_
        refine AW.seq ?_
        refine AW.block ?_
        refine AW.rs ?_
        refine AL.val rfl (.inl rfl) (HV.mv rfl) ?_
        obtain ⟨p24, z25, cs26, hz27, hK28, hC29, hP30⟩ := RdK.ix (q := (j : Int)) hrsL sl28 (by omega) (by omega)
        obtain ⟨cs31, cs32, rfl, hK33, hK34⟩ := hK28
        obtain rfl : cs31 = [.int .i64 z25.1] := hK33
        obtain rfl : cs32 = [.int .i64 z25.2] := hK34
        refine AL.val rfl (.inl rfl) (hP30 rfl rfl) ?_
        refine AL.val rfl (.inl rfl) (HV.lda (cs := [.int .i64 z25.1, .int .i64 z25.2]) rfl va36 (hC29.ext X21)) ?_
        have a40 := hoK.ltb
        refine AL.w rfl (.inl rfl) (WV.al ze36 rfl) ?_
        rintro _ H36 ⟨b35, rfl, hx37, hn38, hb39⟩
        have o41 := Nat.le_trans X21.bd hn38
        have o42 := Nat.le_trans X22.bd hn38
        have a43 : ∀ b', some b' = vk.ownBlock → b' = b35 → False := fun b' h1 h2 => by have x1 := a40 b' h1; have x2 := hn38; omega
        have X44 := Ext.trans X21 hx37
        have X45 := Ext.trans X22 hx37
        have ho46 := hoK.ext hx37
        have X47 := Ext.refl H36
        refine AL.val rfl (.inl rfl) (HV.as rfl) ?_
        refine AL.w0 (.inl rfl) (WV.st rfl rfl va36 rfl hb39 (Nat.le_of_ble_eq_true rfl) (one_cons rfl (one_cons rfl one_nil))) ?_
        rintro _ H48 ⟨hx49, hb50⟩
        have X51 := Ext.thru X44 hx49 (fun z_ hz_ => by rw [hz_]; exact o41)
        have X52 := Ext.thru X45 hx49 (fun z_ hz_ => by rw [hz_]; exact o42)
        have q54 := Nat.le_trans X47.bd hx49.bd
        have ho55 := ho46.but hx49 (fun b hb _ e => a43 b hb.2 e) (fun z_ hz_ => by rw [hz_]; exact hb39.w)
        have hb56 : At W H48 b35 ⟨36, [.int .i64 z25.1, .int .i64 z25.2], 2⟩ := hb50
        refine AL.nx ?_
        refine AW.rs ?_
        refine AL.val rfl (.inl rfl) (HV.mv rfl) ?_
        refine AL.val rfl (.inl rfl) (HV.mv rfl) ?_
        refine AL.w rfl (.inl rfl) (WV.call fn65 rfl (has_ok (W := W) m j (by omega) (by omega))) ?_
        rintro _ H57 ⟨rfl, hx58⟩
        have q59 := Nat.le_trans q54 hx58.bd
        have X60 := Ext.trans X51 hx58
        have X61 := Ext.trans X52 hx58
        have ho62 := ho55.ext hx58
        have hb63 := hb56.ext hx58
        refine AL.nx ?_
        refine AW.ifd rfl (fun c64 => ?_) (fun c64 => ?_)
        · -- then
          refine AW.reg ?_
          refine AL.val rfl (.inl rfl) (HV.mv rfl) ?_
          refine AL.val rfl (.inl rfl) (HV.lda (cs := [.int .i64 z25.1, .int .i64 z25.2]) rfl va36 (at_cells hb63 rfl)) ?_
          have X65 := Ext.refl H57
          have y66 := hb63.lt
          have o67 := X60.bd
          have o68 := X61.bd
          have o69 := X65.bd
          have a70 := ho62.ltb
          refine AL.w rfl (.inl rfl) (WV.bsK (K := (kP kI kI)) (l := ([((z25.1, z25.2) : (Int × Int))] : List (Int × Int))) (css := [[.int .i64 z25.1, .int .i64 z25.2]]) sl28 rfl rfl (by first | rfl | (simp [Instr.fill, Value.cells, kI, kB, kU, kU8, kS, Kd.sc]; done) | (simp [Instr.fill, Value.cells, kI, kB, kU, kU8, kS, Kd.sc, rng1, rng2, rng3, rng4, kP])) rfl (segs_cons ⟨[.int .i64 z25.1], [.int .i64 z25.2], rfl, rfl, rfl⟩ segs_nil)) ?_
          rintro v71 H72 ⟨hx73, ho74⟩
          have q75 := Nat.le_trans q59 hx73.bd
          have X76 := Ext.trans X60 hx73
          have X77 := Ext.trans X61 hx73
          have X78 := Ext.trans X65 hx73
          have ho79 := ho62.ext hx73
          have hb80 := hb63.ext hx73
          have X82 := Ext.refl H72
          refine AL.w rfl (.inl rfl) (WV.apk sl28 rfl rfl ho79 ho74.rd (by simp; omega) (by simp; omega) (fun b hb _ e => Nat.lt_irrefl _ (Nat.lt_of_lt_of_le (a70 b e) hb))) ?_
          rintro v83 H84 ⟨hx85, ho86, hb87⟩
          have ho88 := ho86.narrow (ok' := fun b => H5.bd ≤ b ∧ some b = v83.ownBlock) (kP_flat kI_flat kI_flat) (fun b q => ⟨(hb87 b q).elim (fun e => (ho79.blk b e).1.1) (fun e => Nat.le_trans X77.bd e), q⟩)
          have a89 : ∀ b', some b' = v83.ownBlock → b' = b35 → False := fun b' h1 h2 => (hb87 b' h1).elim (fun e => a43 b' e h2) (fun e => by have := hb80.lt; omega)
          have q90 := Nat.le_trans q75 hx85.bd
          have X91 := Ext.thru X76 hx85 (fun b hb => Nat.le_trans o10 (ho79.blk b hb).1.1)
          have X92 := Ext.thru X77 hx85 (fun b hb => Nat.le_trans o11 (ho79.blk b hb).1.1)
          have q94 := Nat.le_trans X78.bd hx85.bd
          have q96 := Nat.le_trans X82.bd hx85.bd
          have ho97 := ho74.but hx85 (fun b hb _ e => Nat.lt_irrefl _ (Nat.lt_of_lt_of_le (a70 b e) hb)) (fun b hb => (ho79.blk b hb).2.2)
          have hb98 := hb80.but hx85 (fun e => a43 _ e rfl)
          refine AL.val rfl (.inl rfl) (HV.as rfl) ?_
          refine AL.nil ?_
          refine nrm_blk (nrm_and ?_)
          refine AW.reg ?_
          refine AL.val rfl (.inl rfl) (HV.add rfl rfl (by omega)) ?_
          refine AL.val rfl (.inl rfl) (HV.mv rfl) ?_
          refine AL.nil ?_
          refine nrm_and ?_
          exact ⟨(j + 1, v83), ⟨X91, X92, by omega, by rw [chM_take l m (getq hz27 rfl), if_pos c64]; exact ho88, trivial⟩, by first | omega | (dsimp only; omega), ⟨rfl, rfl, rfl, rfl, rfl, rfl, rfl, rfl, rfl, rfl, rfl, rfl, rfl, rfl, rfl, rfl, rfl, rfl, trivial⟩⟩
        · -- else
          refine AW.skip ?_
          refine nrm_blk (nrm_and ?_)
          refine AW.reg ?_
          refine AL.val rfl (.inl rfl) (HV.add rfl rfl (by omega)) ?_
          refine AL.val rfl (.inl rfl) (HV.mv rfl) ?_
          refine AL.nil ?_
          refine nrm_and ?_
          exact ⟨(j + 1, vk), ⟨X60, X61, by omega, by rw [chM_take l m (getq hz27 rfl), if_neg c64, List.append_nil]; exact ho62, trivial⟩, by first | omega | (dsimp only; omega), ⟨rfl, rfl, rfl, rfl, rfl, rfl, rfl, rfl, rfl, rfl, rfl, rfl, rfl, rfl, rfl, rfl, rfl, rfl, trivial⟩⟩
      · -- else
        refine AW.exit ?_
        refine ex_and (ex_and (ex_blk ?_))
        refine nrm_and ?_
        refine AW.reg ?_
        refine AL.val rfl (.inl rfl) (HV.mv rfl) ?_
        refine AL.val rfl (.inl rfl) (HV.mv rfl) ?_
        have X99 := Ext.refl H20
        have hnl := nrC_len p l ag dm m
        have hq105 := hoK.rd
        rw [show j = l.length by omega, List.take_length] at hq105
        refine AL.w rfl (.inl rfl) (WV.callv fn48 rfl rfl (near1_ok (hrsL.ext X21) (hDL.ext X21) (hbpL.ext X21) (hbsL.ext X21) (hbaL.ext X21) (hboL.ext X21) hB hv hq105 (vS_sub hv (chM_sub l m)) (by omega))) ?_
        rintro _ H100 ⟨⟨v101, hb102, hD103⟩, hx104⟩
        have hB106 := But.trans (But.trans hBL (Ext.but X21 _)) hx104
        refine AL.nil ?_
        refine nrm_blk (nrm_and ?_)
        refine AW.reg ?_
        refine AL.val rfl (.inl rfl) (HV.mv rfl) ?_
        refine AL.val rfl (.inl rfl) (HV.addu rfl rfl (by omega)) ?_
        refine AL.val rfl (.inl rfl) (HV.as rfl) ?_
        refine AL.nil ?_
        refine nrm_and ?_
        exact ⟨(m + 1, v101), ⟨by omega, hB106, hb102, by
      by_cases hn : nearC p l ag (thrC p (chM l m))
      · rw [if_pos hn] at hD103; rw [nrC_y ⟨by omega, hn⟩]; exact hD103
      · rw [if_neg hn] at hD103; rw [nrC_n (fun q => hn q.2)]; exact hD103, trivial⟩, by first | omega | (dsimp only; omega), ⟨rfl, rfl, rfl, rfl, trivial⟩⟩
  · -- else
    refine AW.exit ?_
    refine ex_and (ex_and (ex_blk ?_))
    refine post_none rfl ?_ (.inl rfl)
    have e : m = 2 ^ l.length := (by omega); subst e; exact ⟨⟨_, hboL.ext X3, hDL.ext X3⟩, But.trans hBL (Ext.but X3 _)⟩
end Go.Proofs.YtbjcgcililpfdaaGreat.VC

