/- Walks. -/
import Derived.Test.YticobjbjejpomaaZF19
set_option linter.unusedVariables false
set_option linter.unusedSimpArgs false
namespace Go.Proofs.Yticobjbjejpomaa.VC
open Go Go.RowKit
open VI (dl dl_fst)
variable {W : World} {H : Hp}

set_option maxRecDepth 100000 in
theorem law_CurveRows {vc vd : Value} {l l2 : List Int} (hr : RdK kU8 W H (fun _ => False) vc l) (hby : bytes l) (hr2 : RdK kU8 W H (fun _ => False) vd l2) (hby2 : bytes l2) : ACalls Try.prog W 12 #[vc, vd] H (fun r H' => r = .bool true ∧ Ext H H') := by
  refine ACalls.of (args := [vc, vd]) Try.func12 rfl rfl ?_
  have X0 := Ext.refl H
  have hm1 := hr.max
  have hm2 := hr2.max
  refine AW.rs ?_
  refine AL.val rfl (.inl rfl) (HV.as rfl) ?_
  refine AL.nx ?_
  refine AW.seq ?_
  refine AW.rs ?_
  refine AL.val rfl (.inl rfl) (HV.mv rfl) ?_
  refine AL.w rfl (.inl rfl) (WV.call fn48 rfl (f6big_ok hr)) ?_
  rintro _ H3 ⟨rfl, hx4⟩
  have X5 := Ext.trans X0 hx4
  refine AL.val rfl (.inl rfl) (HV.mv rfl) ?_
  by_cases c6 : (l.length : Int) > 4096
  · -- true
    have c6_ : decide ((l.length : Int) > 4096) = true := decide_eq_true c6
    rw [c6_]
    refine AL.off rfl rfl (by decide) rfl ?_
    refine AL.off rfl rfl (by decide) rfl ?_
    refine AL.val rfl (.inl rfl) (HV.pickT rfl rfl) ?_
    refine AL.nx ?_
    refine AW.cond rfl (fun _ => ?_) (fun h => by cases h)
    refine AW.rs ?_
    refine AL.val rfl (.inl rfl) (HV.as rfl) ?_
    refine AL.nx ?_
    refine AW.ret ?_
    refine ret_and ?_
    refine post_one rfl rfl ?_ (.inr rfl)
    exact ⟨rfl, X5⟩
  · -- false
    have c6_ : decide ((l.length : Int) > 4096) = false := decide_eq_false c6
    rw [c6_]
    refine AL.val rfl (.inr ⟨_, _, _, rfl, rfl, rfl⟩) (HV.mv rfl) ?_
    refine AL.w rfl (.inr ⟨_, _, _, rfl, rfl, rfl⟩) (WV.call fn48 rfl (f6big_ok (hr2.ext X5))) ?_
    rintro _ H8 ⟨rfl, hx9⟩
    have X10 := Ext.trans X5 hx9
    refine AL.val rfl (.inl rfl) (HV.pickF rfl rfl) ?_
    refine AL.nx ?_
    refine AW.ifd rfl (fun c11 => ?_) (fun c11 => ?_)
    · -- then
      refine AW.rs ?_
      refine AL.val rfl (.inl rfl) (HV.as rfl) ?_
      refine AL.nx ?_
      refine AW.ret ?_
      refine ret_and ?_
      refine post_one rfl rfl ?_ (.inr rfl)
      exact ⟨rfl, X10⟩
    · -- else
      refine AW.skip ?_
      refine nrm_and ?_
      refine AW.rs ?_
      refine AL.val rfl (.inl rfl) (HV.mv rfl) ?_
      refine AL.w rfl (.inl rfl) (WV.call fn49 rfl (p6Prime_ok (hr.ext X10) hby)) ?_
      rintro _ H12 ⟨⟨p, rfl, h14⟩, hx13⟩
      have X15 := Ext.trans X10 hx13
      have hP := prime_of h14
      have hp0 : 0 < p := by omega
      have hp : 2 ≤ p ∧ p ≤ 31 := by omega
      refine AL.val rfl (.inl rfl) (HV.as rfl) ?_
      refine AL.nx ?_
      refine AW.rs ?_
      refine AL.val rfl (.inl rfl) (HV.mv rfl) ?_
      refine AL.w rfl (.inl rfl) (WV.call fn50 rfl (p6Pick_ok (hr.ext X15) hby 4)) ?_
      rintro _ H16 ⟨⟨a, rfl, h18⟩, hx17⟩
      have X19 := Ext.trans X15 hx17
      have ha_ := h18
      have ha4 := ha_.2 (by decide)
      obtain ⟨n, hn_⟩ : ∃ q : Nat, (q : Int) = 1 + a := ⟨(1 + a).toNat, by omega⟩
      refine AL.val rfl (.inl rfl) (HV.add rfl rfl (by omega)) ?_
      rw [← hn_]
      refine AL.val rfl (.inl rfl) (HV.as rfl) ?_
      refine AL.nx ?_
      refine AW.rs ?_
      refine AL.val rfl (.inl rfl) (HV.mv rfl) ?_
      refine AL.val rfl (.inl rfl) (HV.mv rfl) ?_
      refine AL.w rfl (.inl rfl) (WV.call fn50 rfl (p6Pick_ok (hr2.ext X19) hby2 (n : Int))) ?_
      rintro _ H20 ⟨⟨b, rfl, h22⟩, hx21⟩
      have X23 := Ext.trans X19 hx21
      have hb_ := h22
      have hbn := hb_.2 (by omega)
      obtain ⟨m, hm_⟩ : ∃ q : Nat, (q : Int) = 1 + b := ⟨(1 + b).toNat, by omega⟩
      refine AL.val rfl (.inl rfl) (HV.add rfl rfl (by omega)) ?_
      rw [← hm_]
      refine AL.val rfl (.inl rfl) (HV.as rfl) ?_
      refine AL.nx ?_
      refine AW.rs ?_
      refine AL.val rfl (.inl rfl) (HV.mv rfl) ?_
      refine AL.val rfl (.inl rfl) (HV.mv rfl) ?_
      refine AL.val rfl (.inl rfl) (HV.mv rfl) ?_
      refine AL.w rfl (.inl rfl) (WV.call fn51 rfl (curveSc_ok (W := W) (p := p) n m hP.1 (by omega) (by omega) (by omega))) ?_
      rintro _ H26 ⟨⟨u24, v25, rfl, hr28, hr29⟩, hx27⟩
      have X30 := Ext.trans X23 hx27
      have X31 := Ext.refl H26
      refine AL.val rfl (.inl rfl) (HV.mv rfl) ?_
      refine AL.val rfl (.inl rfl) (HV.ex rfl rfl) ?_
      refine AL.val rfl (.inl rfl) (HV.ex rfl rfl) ?_
      refine AL.w rfl (.inl rfl) (WV.al ze31 rfl) ?_
      rintro _ H33 ⟨b32, rfl, hx34, hn35, hb36⟩
      have o37 := Nat.le_trans X30.bd hn35
      have o38 := Nat.le_trans X31.bd hn35
      have X39 := Ext.trans X30 hx34
      have X40 := Ext.trans X31 hx34
      have X41 := Ext.refl H33
      refine AL.w0 (.inl rfl) (WV.st rfl rfl va31 rfl hb36 (Nat.le_of_ble_eq_true rfl) (one_cons rfl (one_cons (sl_one1 (hr28.ext X40).isSl) (one_cons rfl (one_cons rfl (one_cons (sl_one1 (hr29.ext X40).isSl) one_nil)))))) ?_
      rintro _ H42 ⟨hx43, hb44⟩
      have X45 := Ext.thru X39 hx43 (fun z_ hz_ => by rw [hz_]; exact o37)
      have X46 := Ext.thru X40 hx43 (fun z_ hz_ => by rw [hz_]; exact o38)
      have hb48 : At W H42 b32 ⟨31, [.int .i64 (n : Int), u24, .int .i64 p, .int .i64 (m : Int), v25], 5⟩ := hb44
      refine AL.val rfl (.inl rfl) (HV.as rfl) ?_
      refine AL.nx ?_
      refine AW.rs ?_
      refine AL.val rfl (.inl rfl) (HV.mv rfl) ?_
      refine AL.val rfl (.inl rfl) (HV.mv rfl) ?_
      refine AL.val rfl (.inl rfl) (HV.mv rfl) ?_
      refine AL.val rfl (.inl rfl) (HV.sub rfl rfl (by omega)) ?_
      refine AL.w rfl (.inl rfl) (WV.call fn52 rfl (p6Curve_ok (hr2.ext X45) hby2 p ((m : Int) - 1) (by omega) (by omega))) ?_
      rintro v49 H50 ⟨⟨cv, ho52, h53⟩, hx51⟩
      have X55 := Ext.trans X45 hx51
      have X56 := Ext.trans X46 hx51
      have hb57 := hb48.ext hx51
      have X58 := Ext.refl H50
      have hr54 := ho52.rd
      have hcv := h53.1
      have hcvl := h53.2
      have hcvm : cv.length ≤ m := by omega
      have hful : elems p (fullL cv m) := full_in hp0 hcv.2.1 m
      have hsc : okSc (n : Int) (ownN n) p (m : Int) (powL p (ptsN n) m) := own_sc hP.1 (by omega) (by omega)
      refine AL.val rfl (.inl rfl) (HV.as rfl) ?_
      refine AL.nx ?_
      refine AW.rs ?_
      have y59 := hb57.lt
      have o60 := X55.bd
      have o61 := X56.bd
      have o62 := X58.bd
      refine AL.w rfl (.inl rfl) (WV.bsK (K := kI) (l := ([] : List Int)) (css := []) sl22 rfl rfl (by first | rfl | (simp [Instr.fill, Value.cells, kI, kB, kU, kU8, kS, Kd.sc]; done) | (simp [Instr.fill, Value.cells, kI, kB, kU, kU8, kS, Kd.sc, rng1, rng2, rng3, rng4, kP])) rfl segs_nil) ?_
      rintro v63 H64 ⟨hx65, ho66⟩
      have X67 := Ext.trans X55 hx65
      have X68 := Ext.trans X56 hx65
      have X69 := Ext.trans X58 hx65
      have hb70 := hb57.ext hx65
      refine AL.val rfl (.inl rfl) (HV.mv rfl) ?_
      have X72 := Ext.refl H64
      refine AL.w rfl (.inl rfl) (WV.apk sl22 rfl rfl ho66 (hr54.lo.ext X69) (by simp; omega) (by simp; omega) (fun b hb _ e => by have h1 : H50.bd ≤ b := (ho66.blk b e).1; have h2 : b < H50.bd := hb; have h3 := o62; omega)) ?_
      rintro v73 H74 ⟨hx75, ho76, hb77⟩
      have ho78 := ho76.narrow (ok' := fun b => H50.bd ≤ b) kI_flat (fun b q => (hb77 b q).elim (fun e => (ho66.blk b e).1) (fun e => Nat.le_trans X69.bd e))
      have X79 := Ext.thru X67 hx75 (fun b hb => Nat.le_trans o60 (ho66.blk b hb).1)
      have X80 := Ext.thru X68 hx75 (fun b hb => Nat.le_trans o61 (ho66.blk b hb).1)
      have X81 := Ext.thru X69 hx75 (fun b hb => Nat.le_trans o62 (ho66.blk b hb).1)
      have hb83 := hb70.but hx75 (fun e => by have q : H50.bd ≤ _ := (ho66.blk _ e).1; omega)
      refine AL.val rfl (.inl rfl) (HV.as rfl) ?_
      refine AL.nx ?_
      refine AW.seq ?_
      refine AW.block ?_
      refine AW.loop (σ := Nat × Value) (fun ⟨j, vv⟩ => [(0, vc), (4, .bool false), (5, .int .i64 p), (6, .int .i64 (n : Int)), (7, .int .i64 (m : Int)), (8, .pointer (some ⟨b32, 0, none⟩)), (9, .int .i64 0), (10, v49), (11, vv)]) (fun ⟨j, vv⟩ H' => Ext H H' ∧ Ext H26 H' ∧ Ext H50 H' ∧ At W H' b32 ⟨31, [.int .i64 (n : Int), u24, .int .i64 p, .int .i64 (m : Int), v25], 5⟩ ∧ cv.length + j ≤ m ∧ OwnK kI 2 W H' (fun b => H50.bd ≤ b) vv (cv ++ List.replicate j 0) ∧ True) (fun ⟨j, vv⟩ => m - (cv.length + j)) (0, v73) ⟨X79, X80, X81, hb83, by omega, by have q := ho78; simpa using q, trivial⟩ ⟨rfl, rfl, rfl, rfl, rfl, rfl, rfl, rfl, rfl, trivial⟩ ?_
      rintro ⟨j, vv⟩ H84 ⟨X85, X86, X87, hb88, hj, hoL, _⟩
      have hjl : (cv ++ List.replicate j (0 : Int)).length = cv.length + j := by simp
      refine AW.seq ?_
      refine AW.rs ?_
      refine AL.val rfl (.inl rfl) (HV.mv rfl) ?_
      refine AL.val rfl (.inl rfl) (HV.len Try.underlying22 rfl hoL.rd.isSl) ?_
      refine AL.val rfl (.inl rfl) (HV.mv rfl) ?_
      refine AL.val rfl (.inl rfl) (HV.lti rfl rfl) ?_
      refine AL.nx ?_
      refine AW.ifd rfl (fun c89 => ?_) (fun c89 => ?_)
      · -- then
        refine AW.skip ?_
        refine nrm_and ?_
        refine AW.block ?_
        refine AW.reg ?_
        refine AL.val rfl (.inl rfl) (HV.mv rfl) ?_
        have X90 := Ext.refl H84
        have y91 := hb88.lt
        have o92 := X85.bd
        have o93 := X86.bd
        have o94 := X87.bd
        have o95 := X90.bd
        have a96 := hoL.ltb
        refine AL.w rfl (.inl rfl) (WV.bsK (K := kI) (l := ([0] : List Int)) (css := [[.int .i64 0]]) sl22 rfl rfl (by first | rfl | (simp [Instr.fill, Value.cells, kI, kB, kU, kU8, kS, Kd.sc]; done) | (simp [Instr.fill, Value.cells, kI, kB, kU, kU8, kS, Kd.sc, rng1, rng2, rng3, rng4, kP])) rfl (segs_cons rfl segs_nil)) ?_
        rintro v97 H98 ⟨hx99, ho100⟩
        have X101 := Ext.trans X85 hx99
        have X102 := Ext.trans X86 hx99
        have X103 := Ext.trans X87 hx99
        have X104 := Ext.trans X90 hx99
        have ho105 := hoL.ext hx99
        have hb106 := hb88.ext hx99
        have X108 := Ext.refl H98
        refine AL.w rfl (.inl rfl) (WV.apk sl22 rfl rfl ho105 ho100.rd (by simp; omega) (by simp; omega) (fun b hb _ e => Nat.lt_irrefl _ (Nat.lt_of_lt_of_le (a96 b e) hb))) ?_
        rintro v109 H110 ⟨hx111, ho112, hb113⟩
        have ho114 := ho112.narrow (ok' := fun b => H50.bd ≤ b) kI_flat (fun b q => (hb113 b q).elim (fun e => (ho105.blk b e).1) (fun e => Nat.le_trans X103.bd e))
        have X115 := Ext.thru X101 hx111 (fun b hb => Nat.le_trans o60 (ho105.blk b hb).1)
        have X116 := Ext.thru X102 hx111 (fun b hb => Nat.le_trans o61 (ho105.blk b hb).1)
        have X117 := Ext.thru X103 hx111 (fun b hb => Nat.le_trans o62 (ho105.blk b hb).1)
        have hb121 := hb106.but hx111 (fun e => by have q : H50.bd ≤ _ := (ho105.blk _ e).1; omega)
        refine AL.val rfl (.inl rfl) (HV.as rfl) ?_
        refine AL.nil ?_
        refine nrm_blk (nrm_and ?_)
        exact ⟨(j + 1, v109), ⟨X115, X116, X117, hb121, by omega, by rw [rep_snoc]; exact ho114, trivial⟩, by first | omega | (dsimp only; omega), ⟨rfl, rfl, rfl, rfl, rfl, rfl, rfl, rfl, rfl, trivial⟩⟩
      · -- else
        refine AW.exit ?_
        refine ex_and (ex_and (ex_blk ?_))
        refine nrm_and ?_
        refine AW.rs ?_
        have X122 := Ext.refl H84
        have hr123 : RdK kI W H84 (fun _ => True) vv (fullL cv m) := by rw [full_all (show cv.length + j = m by omega)]; exact hoL.rd.okk (fun _ _ _ => trivial)
        have y124 := hb88.lt
        have o125 := X85.bd
        have o126 := X86.bd
        have o127 := X87.bd
        have o128 := X122.bd
        refine AL.w rfl (.inl rfl) (WV.bsK (K := kI) (l := ([] : List Int)) (css := []) sl22 rfl rfl (by first | rfl | (simp [Instr.fill, Value.cells, kI, kB, kU, kU8, kS, Kd.sc]; done) | (simp [Instr.fill, Value.cells, kI, kB, kU, kU8, kS, Kd.sc, rng1, rng2, rng3, rng4, kP])) rfl segs_nil) ?_
        rintro v129 H130 ⟨hx131, ho132⟩
        have X133 := Ext.trans X85 hx131
        have X134 := Ext.trans X86 hx131
        have X135 := Ext.trans X87 hx131
        have X136 := Ext.trans X122 hx131
        have hb137 := hb88.ext hx131
        refine AL.val rfl (.inl rfl) (HV.as rfl) ?_
        refine AL.nx ?_
        refine AW.seq ?_
        refine AW.rs ?_
        refine AL.val rfl (.inl rfl) (HV.as rfl) ?_
        refine AL.nx ?_
        refine AW.block ?_
        refine AW.loop (σ := Nat × Value × Int) (fun ⟨i, vq, y⟩ => [(0, vc), (4, .bool false), (5, .int .i64 p), (6, .int .i64 (n : Int)), (7, .int .i64 (m : Int)), (8, .pointer (some ⟨b32, 0, none⟩)), (9, .int .i64 0), (10, v49), (11, vv), (12, vq), (13, .int .i64 y)]) (fun ⟨i, vq, y⟩ H' => Ext H H' ∧ Ext H26 H' ∧ Ext H50 H' ∧ Ext H84 H' ∧ At W H' b32 ⟨31, [.int .i64 (n : Int), u24, .int .i64 p, .int .i64 (m : Int), v25], 5⟩ ∧ i ≤ n ∧ y = (i : Int) + 1 ∧ OwnK kI 2 W H' (fun b => H84.bd ≤ b) vq (ptsN i) ∧ True) (fun ⟨i, vq, y⟩ => n - i) (0, v129, 1) ⟨X133, X134, X135, X136, hb137, by omega, rfl, ho132, trivial⟩ ⟨rfl, rfl, rfl, rfl, rfl, rfl, rfl, rfl, rfl, rfl, rfl, trivial⟩ ?_
        rintro ⟨i, vq, y⟩ H139 ⟨X140, X141, X142, X143, hb144, hi, hy, hoL, _⟩
        have hpl_ := ptsN_len i
        refine AW.seq ?_
        refine AW.rs ?_
        refine AL.val rfl (.inl rfl) (HV.mv rfl) ?_
        refine AL.val rfl (.inl rfl) (HV.mv rfl) ?_
        refine AL.val rfl (.inl rfl) (HV.lei rfl rfl) ?_
        refine AL.nx ?_
        refine AW.ifd rfl (fun c145 => ?_) (fun c145 => ?_)
        · -- then
          refine AW.skip ?_
          refine nrm_and ?_
          refine AW.seq ?_
          refine AW.block ?_
          refine AW.reg ?_
          refine AL.val rfl (.inl rfl) (HV.mv rfl) ?_
          refine AL.val rfl (.inl rfl) (HV.mv rfl) ?_
          have X146 := Ext.refl H139
          have y147 := hb144.lt
          have o148 := X140.bd
          have o149 := X141.bd
          have o150 := X142.bd
          have o151 := X143.bd
          have o152 := X146.bd
          have a153 := hoL.ltb
          refine AL.w rfl (.inl rfl) (WV.bsK (K := kI) (l := ([y] : List Int)) (css := [[.int .i64 y]]) sl22 rfl rfl (by first | rfl | (simp [Instr.fill, Value.cells, kI, kB, kU, kU8, kS, Kd.sc]; done) | (simp [Instr.fill, Value.cells, kI, kB, kU, kU8, kS, Kd.sc, rng1, rng2, rng3, rng4, kP])) rfl (segs_cons rfl segs_nil)) ?_
          rintro v154 H155 ⟨hx156, ho157⟩
          have X158 := Ext.trans X140 hx156
          have X159 := Ext.trans X141 hx156
          have X160 := Ext.trans X142 hx156
          have X161 := Ext.trans X143 hx156
          have X162 := Ext.trans X146 hx156
          have ho163 := hoL.ext hx156
          have hb164 := hb144.ext hx156
          have X166 := Ext.refl H155
          refine AL.w rfl (.inl rfl) (WV.apk sl22 rfl rfl ho163 ho157.rd (by simp; omega) (by simp; omega) (fun b hb _ e => Nat.lt_irrefl _ (Nat.lt_of_lt_of_le (a153 b e) hb))) ?_
          rintro v167 H168 ⟨hx169, ho170, hb171⟩
          have ho172 := ho170.narrow (ok' := fun b => H84.bd ≤ b) kI_flat (fun b q => (hb171 b q).elim (fun e => (ho163.blk b e).1) (fun e => Nat.le_trans X161.bd e))
          have X173 := Ext.thru X158 hx169 (fun b hb => Nat.le_trans o125 (ho163.blk b hb).1)
          have X174 := Ext.thru X159 hx169 (fun b hb => Nat.le_trans o126 (ho163.blk b hb).1)
          have X175 := Ext.thru X160 hx169 (fun b hb => Nat.le_trans o127 (ho163.blk b hb).1)
          have X176 := Ext.thru X161 hx169 (fun b hb => Nat.le_trans o128 (ho163.blk b hb).1)
          have hb180 := hb164.but hx169 (fun e => by have q : H84.bd ≤ _ := (ho163.blk _ e).1; omega)
          refine AL.val rfl (.inl rfl) (HV.as rfl) ?_
          refine AL.nil ?_
          refine nrm_blk (nrm_and ?_)
          refine AW.reg ?_
          refine AL.val rfl (.inl rfl) (HV.mv rfl) ?_
          refine AL.val rfl (.inl rfl) (HV.add rfl rfl (by omega)) ?_
          refine AL.val rfl (.inl rfl) (HV.as rfl) ?_
          refine AL.nil ?_
          refine nrm_and ?_
          exact ⟨(i + 1, v167, y + 1), ⟨X173, X174, X175, X176, hb180, by omega, by omega, by rw [ptsN_succ, ← hy]; exact ho172, trivial⟩, by first | omega | (dsimp only; omega), ⟨rfl, rfl, rfl, rfl, rfl, rfl, rfl, rfl, rfl, rfl, rfl, trivial⟩⟩
        · -- else
          refine AW.exit ?_
          refine ex_and (ex_and (ex_blk ?_))
          refine nrm_and ?_
          refine AW.seq ?_
          refine AW.draw' [0, 0, 2, 6, 0, 16, 63, 127, 255, 255, 511, 2047] mixed (by rfl) ?_
          have X181 := Ext.refl H139
          have hr182 : RdK kI W H139 (fun _ => True) vq (ptsN n) := by rw [show n = i by omega]; exact hoL.rd.okk (fun _ _ _ => trivial)
          refine Dr.read 0 _ 77 _ rfl rfl rfl rfl rfl (RV.of (by intro _ _ h; cases h) (.inl rfl) (fun _ xd => HV.lda (cs := [.int .i64 (n : Int), u24, .int .i64 p, .int .i64 (m : Int), v25]) rfl va31 (fun j u hu => rdc_ext xd ((at_cells hb144 rfl) j u hu)))) ?_
          refine Dr.read 1 _ 78 _ rfl rfl rfl rfl rfl (RV.of (by intro _ _ h; cases h) (.inl rfl) (fun _ xd => HV.mv rfl)) ?_
          obtain ⟨p183, z184, cs185, hz186, hK187, hC188, hP189⟩ := RdK.ix (q := 0) hr123 sl22 (by omega) (by rw [fullL_len hcvm]; omega)
          obtain rfl : cs185 = [.int .i64 z184] := hK187
          refine Dr.read 2 _ 79 _ rfl rfl rfl rfl rfl (RV.of (by intro _ _ h; cases h) (.inl rfl) (fun _ xd => hP189 rfl rfl)) ?_
          refine Dr.read 3 _ 80 _ rfl rfl rfl rfl rfl (RV.of (by intro _ _ h; cases h) (.inl rfl) (fun _ xd => HV.ld rfl va2 (rdc_ext xd (cells_first (hC188.ext X143) rfl)))) ?_
          refine Dr.read 4 _ 81 _ rfl rfl rfl rfl rfl (RV.of (by intro _ _ h; cases h) (.inl rfl) (fun _ xd => HV.mv rfl)) ?_
          obtain ⟨v190, hr191, hP192⟩ := RdK.cutL (q := 1) (hr123.ext X143) sl22 (by omega) (by rw [fullL_len hcvm]; omega)
          refine Dr.read 5 _ 82 _ rfl rfl rfl rfl rfl (RV.of (by intro _ _ h; cases h) (.inl rfl) (fun _ xd => hP192 rfl rfl)) ?_
          have hfz := full_cons hz186
          have hz80 := elem_at hful hz186
          have hdr : elems p ((fullL cv m).drop (1 : Int).toNat) := elems_drop hful 1
          have hdl_ : (((fullL cv m).drop (1 : Int).toNat).length : Int) = (m : Int) - 1 := by rw [List.length_drop, fullL_len hcvm]; omega
          refine Dr.eff 6 _ _ rfl (by intro d h; cases h; exact ⟨rfl, rfl⟩) rfl rfl rfl (EC.of (by intro _ _ h; cases h) (.inl rfl) (WV.call fn53 rfl (sharesOf_ok (n : Int) p (m : Int) (hr28.ext X141) (hr29.ext X141) z184 hr191 hsc (by omega) hdr hdl_))) (fun v H' h => .inl (h.2)) ?_
          rintro _ H194 ⟨⟨v193, rfl, ho196⟩, hx195⟩
          have X198 := Ext.trans X140 hx195
          have X199 := Ext.trans X141 hx195
          have X200 := Ext.trans X142 hx195
          have X201 := Ext.trans X143 hx195
          have X202 := Ext.trans X181 hx195
          have hb203 := hb144.ext hx195
          have X204 := Ext.refl H194
          have hr197 : RdK kI W H194 (fun _ => True) v193 ((ptsN n).map (fun x => val p cv x)) := by have q := ho196.rd.okk (ok' := fun _ => True) (fun _ _ _ => trivial); rw [hfz, sh_curve hp.1 hcvm] at q; exact q
          refine Dr.read 7 _ 76 _ rfl rfl rfl rfl rfl (RV.of (by intro _ _ h; cases h) (.inl rfl) (fun _ xd => HV.mv rfl)) ?_
          refine Dr.read 8 _ 84 _ rfl rfl rfl rfl rfl (RV.of (by intro _ _ h; cases h) (.inl rfl) (fun _ xd => HV.ex rfl rfl)) ?_
          refine Dr.read 9 _ 85 _ rfl rfl rfl rfl rfl (RV.of (by intro _ _ h; cases h) (.inl rfl) (fun _ xd => HV.ex rfl rfl)) ?_
          refine Dr.read 10 _ 14 _ rfl rfl rfl rfl rfl (RV.of (by intro _ _ h; cases h) (.inl rfl) (fun _ xd => HV.as rfl)) ?_
          refine Dr.read 11 _ 15 _ rfl rfl rfl rfl rfl (RV.of (by intro _ _ h; cases h) (.inl rfl) (fun _ xd => HV.as rfl)) ?_
          refine Dr.fin rfl ?_
          refine nrm_and ?_
          refine AW.rs ?_
          refine AL.val rfl (.inl rfl) (HV.mv rfl) ?_
          refine AL.val rfl (.inl rfl) (HV.mv rfl) ?_
          refine AL.val rfl (.inl rfl) (HV.mv rfl) ?_
          refine AL.w rfl (.inl rfl) (WV.call fn54 rfl (dealI_ok p (hr54.ext X200) (hr182.ext X202) ⟨hP.1, hcv⟩ (ptsN_pts (by omega) (by omega)))) ?_
          rintro _ H206 ⟨⟨v205, rfl, hr208⟩, hx207⟩
          have X209 := Ext.trans X198 hx207
          have X210 := Ext.trans X199 hx207
          have X211 := Ext.trans X200 hx207
          have X212 := Ext.trans X201 hx207
          have X213 := Ext.trans X202 hx207
          have X214 := Ext.trans X204 hx207
          have hb215 := hb203.ext hx207
          have X216 := Ext.refl H206
          have hr217 : RdK (kP kI kI) W H206 _ v205 (dl p cv (ptsN n)) := hr208.rd
          have hdln := dl_len p cv (ptsN n)
          rw [ptsN_len] at hdln
          have hhl : ((ptsN n).map (fun x => val p cv x)).length = n := by rw [List.length_map, ptsN_len]
          refine AL.val rfl (.inl rfl) (HV.mv rfl) ?_
          refine AL.val rfl (.inl rfl) (HV.ex rfl rfl) ?_
          refine AL.val rfl (.inl rfl) (HV.ex rfl rfl) ?_
          refine AL.val rfl (.inl rfl) (HV.as rfl) ?_
          refine AL.val rfl (.inl rfl) (HV.as rfl) ?_
          refine AL.nx ?_
          refine AW.seq ?_
          refine AW.rs ?_
          refine AL.val rfl (.inl rfl) (HV.mv rfl) ?_
          refine AL.val rfl (.inl rfl) (HV.nei rfl rfl) ?_
          refine AL.val rfl (.inl rfl) (HV.mv rfl) ?_
          by_cases c218 : (0 : Int) ≠ 0
          · -- true
            have c218_ : decide ((0 : Int) ≠ 0) = true := decide_eq_true c218
            rw [c218_]
            refine AL.off rfl rfl (by decide) rfl ?_
            refine AL.off rfl rfl (by decide) rfl ?_
            refine AL.val rfl (.inl rfl) (HV.pickT rfl rfl) ?_
            refine AL.val rfl (.inl rfl) (HV.mv rfl) ?_
            refine AL.off rfl rfl (by decide) rfl ?_
            refine AL.off rfl rfl (by decide) rfl ?_
            refine AL.val rfl (.inl rfl) (HV.pickT rfl rfl) ?_
            refine AL.val rfl (.inl rfl) (HV.mv rfl) ?_
            refine AL.off rfl rfl (by decide) rfl ?_
            refine AL.off rfl rfl (by decide) rfl ?_
            refine AL.off rfl rfl (by decide) rfl ?_
            refine AL.off rfl rfl (by decide) rfl ?_
            refine AL.off rfl rfl (by decide) rfl ?_
            refine AL.val rfl (.inl rfl) (HV.pickT rfl rfl) ?_
            refine AL.nx ?_
            refine AW.cond rfl (fun _ => ?_) (fun h => by cases h)
            refine AW.rs ?_
            refine AL.val rfl (.inl rfl) (HV.as rfl) ?_
            refine AL.nx ?_
            refine AW.ret ?_
            refine ret_and ?_
            refine post_one rfl rfl ?_ (.inr rfl)
            exfalso; first | omega | exact c218 rfl | (simp at c218; done) | (rw [hdd] at c218; simp at c218; done) | exact c218 (deal_at (by assumption) (by assumption))
          · -- false
            have c218_ : decide ((0 : Int) ≠ 0) = false := decide_eq_false c218
            rw [c218_]
            refine AL.val rfl (.inr ⟨_, _, _, rfl, rfl, rfl⟩) (HV.mv rfl) ?_
            refine AL.val rfl (.inr ⟨_, _, _, rfl, rfl, rfl⟩) (HV.nei rfl rfl) ?_
            refine AL.val rfl (.inl rfl) (HV.pickF rfl rfl) ?_
            refine AL.val rfl (.inl rfl) (HV.mv rfl) ?_
            by_cases c220 : (0 : Int) ≠ 0
            · -- true
              have c220_ : decide ((0 : Int) ≠ 0) = true := decide_eq_true c220
              rw [c220_]
              refine AL.off rfl rfl (by decide) rfl ?_
              refine AL.off rfl rfl (by decide) rfl ?_
              refine AL.val rfl (.inl rfl) (HV.pickT rfl rfl) ?_
              refine AL.val rfl (.inl rfl) (HV.mv rfl) ?_
              refine AL.off rfl rfl (by decide) rfl ?_
              refine AL.off rfl rfl (by decide) rfl ?_
              refine AL.off rfl rfl (by decide) rfl ?_
              refine AL.off rfl rfl (by decide) rfl ?_
              refine AL.off rfl rfl (by decide) rfl ?_
              refine AL.val rfl (.inl rfl) (HV.pickT rfl rfl) ?_
              refine AL.nx ?_
              refine AW.cond rfl (fun _ => ?_) (fun h => by cases h)
              refine AW.rs ?_
              refine AL.val rfl (.inl rfl) (HV.as rfl) ?_
              refine AL.nx ?_
              refine AW.ret ?_
              refine ret_and ?_
              refine post_one rfl rfl ?_ (.inr rfl)
              exfalso; first | omega | exact c220 rfl | (simp at c220; done) | (rw [hdd] at c220; simp at c220; done) | exact c220 (deal_at (by assumption) (by assumption))
            · -- false
              have c220_ : decide ((0 : Int) ≠ 0) = false := decide_eq_false c220
              rw [c220_]
              refine AL.val rfl (.inr ⟨_, _, _, rfl, rfl, rfl⟩) (HV.mv rfl) ?_
              refine AL.val rfl (.inr ⟨_, _, _, rfl, rfl, rfl⟩) (HV.nei rfl rfl) ?_
              refine AL.val rfl (.inl rfl) (HV.pickF rfl rfl) ?_
              refine AL.val rfl (.inl rfl) (HV.mv rfl) ?_
              by_cases c222 : (0 : Int) ≠ 0
              · -- true
                have c222_ : decide ((0 : Int) ≠ 0) = true := decide_eq_true c222
                rw [c222_]
                refine AL.off rfl rfl (by decide) rfl ?_
                refine AL.off rfl rfl (by decide) rfl ?_
                refine AL.off rfl rfl (by decide) rfl ?_
                refine AL.off rfl rfl (by decide) rfl ?_
                refine AL.off rfl rfl (by decide) rfl ?_
                refine AL.val rfl (.inl rfl) (HV.pickT rfl rfl) ?_
                refine AL.nx ?_
                refine AW.cond rfl (fun _ => ?_) (fun h => by cases h)
                refine AW.rs ?_
                refine AL.val rfl (.inl rfl) (HV.as rfl) ?_
                refine AL.nx ?_
                refine AW.ret ?_
                refine ret_and ?_
                refine post_one rfl rfl ?_ (.inr rfl)
                exfalso; first | omega | exact c222 rfl | (simp at c222; done) | (rw [hdd] at c222; simp at c222; done) | exact c222 (deal_at (by assumption) (by assumption))
              · -- false
                have c222_ : decide ((0 : Int) ≠ 0) = false := decide_eq_false c222
                rw [c222_]
                refine AL.val rfl (.inr ⟨_, _, _, rfl, rfl, rfl⟩) (HV.mv rfl) ?_
                refine AL.val rfl (.inr ⟨_, _, _, rfl, rfl, rfl⟩) (HV.len Try.underlying22 rfl hr197.isSl) ?_
                refine AL.val rfl (.inr ⟨_, _, _, rfl, rfl, rfl⟩) (HV.mv rfl) ?_
                refine AL.val rfl (.inr ⟨_, _, _, rfl, rfl, rfl⟩) (HV.len Try.underlying82 rfl hr217.isSl) ?_
                refine AL.val rfl (.inr ⟨_, _, _, rfl, rfl, rfl⟩) (HV.nei rfl rfl) ?_
                refine AL.val rfl (.inl rfl) (HV.pickF rfl rfl) ?_
                refine AL.nx ?_
                refine AW.ifd rfl (fun c224 => ?_) (fun c224 => ?_)
                · -- then
                  refine AW.rs ?_
                  refine AL.val rfl (.inl rfl) (HV.as rfl) ?_
                  refine AL.nx ?_
                  refine AW.ret ?_
                  refine ret_and ?_
                  refine post_one rfl rfl ?_ (.inr rfl)
                  exfalso; first | omega | exact c224 rfl | (simp at c224; done) | (rw [hdd] at c224; simp at c224; done) | exact c224 (deal_at (by assumption) (by assumption))
                · -- else
                  refine AW.skip ?_
                  refine nrm_and ?_
                  refine AW.seq ?_
                  refine AW.rs ?_
                  refine AL.val rfl (.inl rfl) (HV.as rfl) ?_
                  refine AL.nx ?_
                  refine AW.block ?_
                  refine AW.loop (σ := Nat) (fun q => [(0, vc), (5, .int .i64 p), (6, .int .i64 (n : Int)), (7, .int .i64 (m : Int)), (8, .pointer (some ⟨b32, 0, none⟩)), (11, vv), (14, v193), (16, v205), (18, .int .i64 (q : Int))]) (fun q H' => Ext H H' ∧ Ext H26 H' ∧ Ext H50 H' ∧ Ext H84 H' ∧ Ext H139 H' ∧ Ext H194 H' ∧ Ext H206 H' ∧ At W H' b32 ⟨31, [.int .i64 (n : Int), u24, .int .i64 p, .int .i64 (m : Int), v25], 5⟩ ∧ q ≤ n ∧ True) (fun q => n - q) 0 ⟨X209, X210, X211, X212, X213, X214, X216, hb215, Nat.zero_le _, trivial⟩ ⟨rfl, rfl, rfl, rfl, rfl, rfl, rfl, rfl, rfl, trivial⟩ ?_
                  rintro q H225 ⟨X226, X227, X228, X229, X230, X231, X232, hb233, hq_, _⟩
                  refine AW.seq ?_
                  refine AW.rs ?_
                  refine AL.val rfl (.inl rfl) (HV.mv rfl) ?_
                  refine AL.val rfl (.inl rfl) (HV.mv rfl) ?_
                  refine AL.val rfl (.inl rfl) (HV.len Try.underlying22 rfl hr197.isSl) ?_
                  refine AL.val rfl (.inl rfl) (HV.lti rfl rfl) ?_
                  refine AL.nx ?_
                  refine AW.ifd rfl (fun c234 => ?_) (fun c234 => ?_)
                  · -- then
                    refine AW.skip ?_
                    refine nrm_and ?_
                    refine AW.seq ?_
                    refine AW.block ?_
                    refine AW.seq ?_
                    refine AW.draw' [0, 0, 3, 7, 0, 0, 48, 112, 240, 511] mixed (by rfl) ?_
                    refine Dr.read 0 _ 116 _ rfl rfl rfl rfl rfl (RV.of (by intro _ _ h; cases h) (.inl rfl) (fun _ xd => HV.mv rfl)) ?_
                    refine Dr.read 1 _ 117 _ rfl rfl rfl rfl rfl (RV.of (by intro _ _ h; cases h) (.inl rfl) (fun _ xd => HV.mv rfl)) ?_
                    obtain ⟨p235, z236, cs237, hz238, hK239, hC240, hP241⟩ := RdK.ix (q := (q : Int)) hr197 sl22 (by omega) (by omega)
                    obtain rfl : cs237 = [.int .i64 z236] := hK239
                    refine Dr.read 2 _ 118 _ rfl rfl rfl rfl rfl (RV.of (by intro _ _ h; cases h) (.inl rfl) (fun _ xd => hP241 rfl rfl)) ?_
                    refine Dr.read 3 _ 119 _ rfl rfl rfl rfl rfl (RV.of (by intro _ _ h; cases h) (.inl rfl) (fun _ xd => HV.ld rfl va2 (rdc_ext xd (cells_first (hC240.ext X231) rfl)))) ?_
                    refine Dr.read 4 _ 120 _ rfl rfl rfl rfl rfl (RV.of (by intro _ _ h; cases h) (.inl rfl) (fun _ xd => HV.mv rfl)) ?_
                    refine Dr.read 5 _ 121 _ rfl rfl rfl rfl rfl (RV.of (by intro _ _ h; cases h) (.inl rfl) (fun _ xd => HV.mv rfl)) ?_
                    obtain ⟨p242, z243, cs244, hz245, hK246, hC247, hP248⟩ := RdK.ix (q := (q : Int)) hr217 sl82 (by omega) (by omega)
                    obtain ⟨cs249, cs250, rfl, hK251, hK252⟩ := hK246
                    obtain rfl : cs249 = [.int .i64 z243.1] := hK251
                    obtain rfl : cs250 = [.int .i64 z243.2] := hK252
                    refine Dr.read 6 _ 122 _ rfl rfl rfl rfl rfl (RV.of (by intro _ _ h; cases h) (.inl rfl) (fun _ xd => hP248 rfl rfl)) ?_
                    refine Dr.read 7 _ 123 _ rfl rfl rfl rfl rfl (RV.of (by intro _ _ h; cases h) (.inl rfl) (fun _ xd => HV.fa fl86_1 rfl)) ?_
                    refine Dr.read 8 _ 124 _ rfl rfl rfl rfl rfl (RV.of (by intro _ _ h; cases h) (.inl rfl) (fun _ xd => HV.ld rfl va2 (rdc_ext xd (cells_at (hC247.ext X232) rfl)))) ?_
                    refine Dr.read 9 _ 125 _ rfl rfl rfl rfl rfl (RV.of (by intro _ _ h; cases h) (.inl rfl) (fun _ xd => HV.nei rfl rfl)) ?_
                    refine Dr.fin rfl ?_
                    refine nrm_and ?_
                    refine AW.ifd rfl (fun c253 => ?_) (fun c253 => ?_)
                    · -- then
                      refine AW.rs ?_
                      refine AL.val rfl (.inl rfl) (HV.as rfl) ?_
                      refine AL.nx ?_
                      refine AW.ret ?_
                      refine ret_blk (ret_and (ret_and (ret_blk (ret_and ?_))))
                      refine post_one rfl rfl ?_ (.inr rfl)
                      exfalso; first | omega | exact c253 rfl | (simp at c253; done) | (rw [hdd] at c253; simp at c253; done) | exact c253 (deal_at hz238 hz245)
                    · -- else
                      refine AW.skip ?_
                      refine nrm_blk (nrm_and ?_)
                      refine AW.reg ?_
                      refine AL.val rfl (.inl rfl) (HV.mv rfl) ?_
                      refine AL.val rfl (.inl rfl) (HV.add rfl rfl (by omega)) ?_
                      refine AL.val rfl (.inl rfl) (HV.as rfl) ?_
                      refine AL.nil ?_
                      refine nrm_and ?_
                      exact ⟨q + 1, ⟨X226, X227, X228, X229, X230, X231, X232, hb233, by omega, trivial⟩, by first | omega | (dsimp only; omega), ⟨rfl, rfl, rfl, rfl, rfl, rfl, rfl, rfl, rfl, trivial⟩⟩
                  · -- else
                    refine AW.exit ?_
                    refine ex_and (ex_and (ex_blk ?_))
                    refine nrm_and ?_
                    refine AW.rs ?_
                    refine AL.val rfl (.inl rfl) (HV.mv rfl) ?_
                    refine AL.val rfl (.inl rfl) (HV.mv rfl) ?_
                    refine AL.w rfl (.inl rfl) (WV.call fn55 rfl (p6Group_ok (hr.ext X226) hby n (by omega))) ?_
                    rintro v254 H255 ⟨⟨g, ho257, h258⟩, hx256⟩
                    have X260 := Ext.trans X226 hx256
                    have X261 := Ext.trans X227 hx256
                    have X262 := Ext.trans X228 hx256
                    have X263 := Ext.trans X229 hx256
                    have X264 := Ext.trans X230 hx256
                    have X265 := Ext.trans X231 hx256
                    have X266 := Ext.trans X232 hx256
                    have hb267 := hb233.ext hx256
                    have X268 := Ext.refl H255
                    have hr259 := ho257.rd
                    have hg := h258
                    have hgl4_ := hg.l4
                    have hso := so_curve hP.1 (m := m) (show 1 ≤ n ∧ n ≤ 4 by omega) (by omega) (show (n : Int) < p by omega) hg
                    have hdd : decide (m ≤ g.length) = decide ((g.length : Int) ≥ (m : Int)) := decide_eq_decide.2 (by omega)
                    refine AL.val rfl (.inl rfl) (HV.as rfl) ?_
                    refine AL.nx ?_
                    refine AW.rs ?_
                    refine AL.val rfl (.inl rfl) (HV.lda (cs := [.int .i64 (n : Int), u24, .int .i64 p, .int .i64 (m : Int), v25]) rfl va31 (at_cells hb267 rfl)) ?_
                    refine AL.val rfl (.inl rfl) (HV.mv rfl) ?_
                    refine AL.w rfl (.inl rfl) (WV.call fn25 rfl ((by have q := implSO_ok (n : Int) p (m : Int) (hr28.ext X261) (hr29.ext X261) hr259; rw [hso.1, hso.2] at q; exact q))) ?_
                    rintro _ H269 ⟨rfl, hx270⟩
                    have X271 := Ext.trans X260 hx270
                    have X272 := Ext.trans X261 hx270
                    have X273 := Ext.trans X262 hx270
                    have X274 := Ext.trans X263 hx270
                    have X275 := Ext.trans X264 hx270
                    have X276 := Ext.trans X265 hx270
                    have X277 := Ext.trans X266 hx270
                    have X278 := Ext.trans X268 hx270
                    have hb279 := hb267.ext hx270
                    refine AL.val rfl (.inl rfl) (HV.mv rfl) ?_
                    refine AL.val rfl (.inl rfl) (HV.ex rfl rfl) ?_
                    refine AL.val rfl (.inl rfl) (HV.ex rfl rfl) ?_
                    refine AL.val rfl (.inl rfl) (HV.as rfl) ?_
                    refine AL.val rfl (.inl rfl) (HV.as rfl) ?_
                    refine AL.nx ?_
                    refine AW.seq ?_
                    refine AW.rs ?_
                    refine AL.val rfl (.inl rfl) (HV.mv rfl) ?_
                    refine AL.val rfl (.inl rfl) (HV.nei rfl rfl) ?_
                    refine AL.val rfl (.inl rfl) (HV.mv rfl) ?_
                    by_cases c280 : (0 : Int) ≠ 0
                    · -- true
                      have c280_ : decide ((0 : Int) ≠ 0) = true := decide_eq_true c280
                      rw [c280_]
                      refine AL.off rfl rfl (by decide) rfl ?_
                      refine AL.off rfl rfl (by decide) rfl ?_
                      refine AL.off rfl rfl (by decide) rfl ?_
                      refine AL.off rfl rfl (by decide) rfl ?_
                      refine AL.off rfl rfl (by decide) rfl ?_
                      refine AL.off rfl rfl (by decide) rfl ?_
                      refine AL.val rfl (.inl rfl) (HV.pickT rfl rfl) ?_
                      refine AL.nx ?_
                      refine AW.cond rfl (fun _ => ?_) (fun h => by cases h)
                      refine AW.rs ?_
                      refine AL.val rfl (.inl rfl) (HV.as rfl) ?_
                      refine AL.nx ?_
                      refine AW.ret ?_
                      refine ret_and ?_
                      refine post_one rfl rfl ?_ (.inr rfl)
                      exfalso; first | omega | exact c280 rfl | (simp at c280; done) | (rw [hdd] at c280; simp at c280; done) | exact c280 (deal_at (by assumption) (by assumption))
                    · -- false
                      have c280_ : decide ((0 : Int) ≠ 0) = false := decide_eq_false c280
                      rw [c280_]
                      refine AL.val rfl (.inr ⟨_, _, _, rfl, rfl, rfl⟩) (HV.mv rfl) ?_
                      refine AL.val rfl (.inr ⟨_, _, _, rfl, rfl, rfl⟩) (HV.mv rfl) ?_
                      refine AL.val rfl (.inr ⟨_, _, _, rfl, rfl, rfl⟩) (HV.len Try.underlying22 rfl hr259.isSl) ?_
                      refine AL.val rfl (.inr ⟨_, _, _, rfl, rfl, rfl⟩) (HV.mv rfl) ?_
                      refine AL.val rfl (.inr ⟨_, _, _, rfl, rfl, rfl⟩) (HV.gei rfl rfl) ?_
                      refine AL.val rfl (.inr ⟨_, _, _, rfl, rfl, rfl⟩) (HV.neb Try.underlying4 rfl rfl) ?_
                      refine AL.val rfl (.inl rfl) (HV.pickF rfl rfl) ?_
                      refine AL.nx ?_
                      refine AW.cond rfl (fun c282 => ?_) (fun c282 => ?_)
                      · -- then
                        refine AW.rs ?_
                        refine AL.val rfl (.inl rfl) (HV.as rfl) ?_
                        refine AL.nx ?_
                        refine AW.ret ?_
                        refine ret_and ?_
                        refine post_one rfl rfl ?_ (.inr rfl)
                        exfalso; first | omega | exact c282 rfl | (simp at c282; done) | (rw [hdd] at c282; simp at c282; done) | exact c282 (deal_at (by assumption) (by assumption))
                      · -- else
                        refine AW.skip ?_
                        refine nrm_and ?_
                        refine AW.seq ?_
                        refine AW.rs ?_
                        refine AL.val rfl (.inl rfl) (HV.mv rfl) ?_
                        refine AL.val rfl (.inl rfl) (HV.not rfl) ?_
                        refine AL.val rfl (.inl rfl) (HV.mv rfl) ?_
                        by_cases c283 : m ≤ g.length
                        · -- false
                          have c283_ : (!decide (m ≤ g.length)) = false := by rw [decide_eq_true c283]; rfl
                          rw [c283_]
                          refine AL.val rfl (.inr ⟨_, _, _, rfl, rfl, rfl⟩) (HV.mv rfl) ?_
                          refine AL.val rfl (.inr ⟨_, _, _, rfl, rfl, rfl⟩) (HV.len Try.underlying22 rfl hr259.isSl) ?_
                          refine AL.val rfl (.inr ⟨_, _, _, rfl, rfl, rfl⟩) (HV.eqi rfl rfl) ?_
                          refine AL.val rfl (.inl rfl) (HV.pickF rfl rfl) ?_
                          refine AL.nx ?_
                          refine AW.ifd rfl (fun c284 => ?_) (fun c284 => ?_)
                          · -- then
                            refine AW.rs ?_
                            refine AL.val rfl (.inl rfl) (HV.as rfl) ?_
                            refine AL.nx ?_
                            refine AW.ret ?_
                            refine ret_and ?_
                            refine post_one rfl rfl ?_ (.inr rfl)
                            exact ⟨rfl, X271⟩
                          · -- else
                            refine AW.skip ?_
                            refine nrm_and ?_
                            refine AW.rs ?_
                            have X285 := Ext.refl H269
                            have y286 := hb279.lt
                            have o287 := X271.bd
                            have o288 := X272.bd
                            have o289 := X273.bd
                            have o290 := X274.bd
                            have o291 := X275.bd
                            have o292 := X276.bd
                            have o293 := X277.bd
                            have o294 := X278.bd
                            have o295 := X285.bd
                            refine AL.w rfl (.inl rfl) (WV.bsK (K := (kP kI kI)) (l := ([] : List (Int × Int))) (css := []) sl82 rfl rfl (by first | rfl | (simp [Instr.fill, Value.cells, kI, kB, kU, kU8, kS, Kd.sc]; done) | (simp [Instr.fill, Value.cells, kI, kB, kU, kU8, kS, Kd.sc, rng1, rng2, rng3, rng4, kP])) rfl segs_nil) ?_
                            rintro v296 H297 ⟨hx298, ho299⟩
                            have X300 := Ext.trans X271 hx298
                            have X301 := Ext.trans X272 hx298
                            have X302 := Ext.trans X273 hx298
                            have X303 := Ext.trans X274 hx298
                            have X304 := Ext.trans X275 hx298
                            have X305 := Ext.trans X276 hx298
                            have X306 := Ext.trans X277 hx298
                            have X307 := Ext.trans X278 hx298
                            have X308 := Ext.trans X285 hx298
                            have hb309 := hb279.ext hx298
                            refine AL.val rfl (.inl rfl) (HV.as rfl) ?_
                            refine AL.nx ?_
                            refine AW.rs ?_
                            have X311 := Ext.refl H297
                            have y312 := hb309.lt
                            have o313 := X300.bd
                            have o314 := X301.bd
                            have o315 := X302.bd
                            have o316 := X303.bd
                            have o317 := X304.bd
                            have o318 := X305.bd
                            have o319 := X306.bd
                            have o320 := X307.bd
                            have o321 := X308.bd
                            have o322 := X311.bd
                            have a323 := ho299.ltb
                            refine AL.w rfl (.inl rfl) (WV.bsK (K := kI) (l := ([] : List Int)) (css := []) sl22 rfl rfl (by first | rfl | (simp [Instr.fill, Value.cells, kI, kB, kU, kU8, kS, Kd.sc]; done) | (simp [Instr.fill, Value.cells, kI, kB, kU, kU8, kS, Kd.sc, rng1, rng2, rng3, rng4, kP])) rfl segs_nil) ?_
                            rintro v324 H325 ⟨hx326, ho327⟩
                            have X328 := Ext.trans X300 hx326
                            have X329 := Ext.trans X301 hx326
                            have X330 := Ext.trans X302 hx326
                            have X331 := Ext.trans X303 hx326
                            have X332 := Ext.trans X304 hx326
                            have X333 := Ext.trans X305 hx326
                            have X334 := Ext.trans X306 hx326
                            have X335 := Ext.trans X307 hx326
                            have X336 := Ext.trans X308 hx326
                            have X337 := Ext.trans X311 hx326
                            have ho338 := ho299.ext hx326
                            have hb339 := hb309.ext hx326
                            refine AL.val rfl (.inl rfl) (HV.as rfl) ?_
                            refine AL.nx ?_
                            refine AW.seq ?_
                            refine AW.rs ?_
                            refine AL.val rfl (.inl rfl) (HV.as rfl) ?_
                            refine AL.nx ?_
                            refine AW.block ?_
                            have ho341 := ho338.narrow (ok' := fun b => H269.bd ≤ b ∧ some b = v296.ownBlock) (kP_flat kI_flat kI_flat) (fun b q => ⟨(ho338.blk b q).1, q⟩)
                            have ho342 := ho327.narrow (ok' := fun b => H297.bd ≤ b ∧ some b = v324.ownBlock) kI_flat (fun b q => ⟨(ho327.blk b q).1, q⟩)
                            have d343 : ∀ b, some b = v296.ownBlock → some b = v324.ownBlock → False := fun b h1 h2 => by have x1 := a323 b h1; have x2 : H297.bd ≤ b := (ho342.blk b h2).1.1; omega
                            have ho344 := ho342.okk (ok' := fun b => H269.bd ≤ b ∧ some b = v324.ownBlock) (fun b hb _ => ⟨Nat.le_trans o321 hb.1, hb.2⟩)
                            refine AW.loop (σ := Nat × Value × Value) (fun ⟨i, va, vb⟩ => [(5, .int .i64 p), (8, .pointer (some ⟨b32, 0, none⟩)), (11, vv), (14, v193), (16, v205), (19, v254), (22, va), (23, vb), (24, .int .i64 (i : Int))]) (fun ⟨i, va, vb⟩ H' => Ext H H' ∧ Ext H26 H' ∧ Ext H50 H' ∧ Ext H84 H' ∧ Ext H139 H' ∧ Ext H194 H' ∧ Ext H206 H' ∧ Ext H255 H' ∧ Ext H269 H' ∧ At W H' b32 ⟨31, [.int .i64 (n : Int), u24, .int .i64 p, .int .i64 (m : Int), v25], 5⟩ ∧ i ≤ g.length ∧ (∀ b, some b = va.ownBlock → some b = vb.ownBlock → False) ∧ OwnK (kP kI kI) 86 W H' (fun b => H269.bd ≤ b ∧ some b = va.ownBlock) va (dl p cv (gpt (g.take i))) ∧ OwnK kI 2 W H' (fun b => H269.bd ≤ b ∧ some b = vb.ownBlock) vb (gvs p cv (g.take i)) ∧ True) (fun ⟨i, va, vb⟩ => g.length - i) (0, v296, v324) ⟨X328, X329, X330, X331, X332, X333, X334, X335, X336, hb339, Nat.zero_le _, d343, ho341, ho344, trivial⟩ ⟨rfl, rfl, rfl, rfl, rfl, rfl, rfl, rfl, rfl, trivial⟩ ?_
                            rintro ⟨i, va, vb⟩ H345 ⟨X346, X347, X348, X349, X350, X351, X352, X353, X354, hb355, hi, hdis, hoA, hoB, _⟩
                            have hgl4 := hg.l4
                            have hla_ : (dl p cv (gpt (g.take i))).length ≤ 4 := by have q := dl_len p cv (gpt (g.take i)); rw [gpt_len, List.length_take] at q; omega
                            have hlb_ : (gvs p cv (g.take i)).length ≤ 4 := by rw [gvs_len, List.length_take]; omega
                            refine AW.seq ?_
                            refine AW.rs ?_
                            refine AL.val rfl (.inl rfl) (HV.mv rfl) ?_
                            refine AL.val rfl (.inl rfl) (HV.mv rfl) ?_
                            refine AL.val rfl (.inl rfl) (HV.len Try.underlying22 rfl hr259.isSl) ?_
                            refine AL.val rfl (.inl rfl) (HV.lti rfl rfl) ?_
                            refine AL.nx ?_
                            refine AW.ifd rfl (fun c356 => ?_) (fun c356 => ?_)
                            · -- then
                              refine AW.skip ?_
                              refine nrm_and ?_
                              refine AW.seq ?_
                              refine AW.block ?_
                              refine AW.rs ?_
                              refine AL.val rfl (.inl rfl) (HV.mv rfl) ?_
                              refine AL.val rfl (.inl rfl) (HV.mv rfl) ?_
                              refine AL.val rfl (.inl rfl) (HV.mv rfl) ?_
                              refine AL.val rfl (.inl rfl) (HV.mv rfl) ?_
                              obtain ⟨p357, z358, cs359, hz360, hK361, hC362, hP363⟩ := RdK.ix (q := (i : Int)) hr259 sl22 (by omega) (by omega)
                              obtain rfl : cs359 = [.int .i64 z358] := hK361
                              refine AL.val rfl (.inl rfl) (hP363 rfl rfl) ?_
                              refine AL.val rfl (.inl rfl) (HV.ld rfl va2 (cells_first (hC362.ext X353) rfl)) ?_
                              have hb166 := hg.bd _ (List.mem_of_getElem? hz360)
                              obtain ⟨p364, z365, cs366, hz367, hK368, hC369, hP370⟩ := RdK.ix (q := z358) hr217 sl82 (by omega) (by omega)
                              obtain ⟨cs371, cs372, rfl, hK373, hK374⟩ := hK368
                              obtain rfl : cs371 = [.int .i64 z365.1] := hK373
                              obtain rfl : cs372 = [.int .i64 z365.2] := hK374
                              refine AL.val rfl (.inl rfl) (hP370 rfl rfl) ?_
                              refine AL.val rfl (.inl rfl) (HV.lda (cs := [.int .i64 z365.1, .int .i64 z365.2]) rfl va86 (hC369.ext X352)) ?_
                              have X375 := Ext.refl H345
                              have y376 := hb355.lt
                              have o377 := X346.bd
                              have o378 := X347.bd
                              have o379 := X348.bd
                              have o380 := X349.bd
                              have o381 := X350.bd
                              have o382 := X351.bd
                              have o383 := X352.bd
                              have o384 := X353.bd
                              have o385 := X354.bd
                              have o386 := X375.bd
                              have a387 := hoA.ltb
                              have a388 := hoB.ltb
                              refine AL.w rfl (.inl rfl) (WV.bsK (K := (kP kI kI)) (l := ([((z365.1, z365.2) : (Int × Int))] : List (Int × Int))) (css := [[.int .i64 z365.1, .int .i64 z365.2]]) sl82 rfl rfl (by first | rfl | (simp [Instr.fill, Value.cells, kI, kB, kU, kU8, kS, Kd.sc]; done) | (simp [Instr.fill, Value.cells, kI, kB, kU, kU8, kS, Kd.sc, rng1, rng2, rng3, rng4, kP])) rfl (segs_cons ⟨[.int .i64 z365.1], [.int .i64 z365.2], rfl, rfl, rfl⟩ segs_nil)) ?_
                              rintro v389 H390 ⟨hx391, ho392⟩
                              have X393 := Ext.trans X346 hx391
                              have X394 := Ext.trans X347 hx391
                              have X395 := Ext.trans X348 hx391
                              have X396 := Ext.trans X349 hx391
                              have X397 := Ext.trans X350 hx391
                              have X398 := Ext.trans X351 hx391
                              have X399 := Ext.trans X352 hx391
                              have X400 := Ext.trans X353 hx391
                              have X401 := Ext.trans X354 hx391
                              have X402 := Ext.trans X375 hx391
                              have ho403 := hoA.ext hx391
                              have ho404 := hoB.ext hx391
                              have hb405 := hb355.ext hx391
                              have X407 := Ext.refl H390
                              refine AL.w rfl (.inl rfl) (WV.apk sl82 rfl rfl ho403 ho392.rd (by simp; omega) (by simp; omega) (fun b hb _ e => Nat.lt_irrefl _ (Nat.lt_of_lt_of_le (a387 b e) hb))) ?_
                              rintro v408 H409 ⟨hx410, ho411, hb412⟩
                              have ho413 := ho411.narrow (ok' := fun b => H269.bd ≤ b ∧ some b = v408.ownBlock) (kP_flat kI_flat kI_flat) (fun b q => ⟨(hb412 b q).elim (fun e => (ho403.blk b e).1.1) (fun e => Nat.le_trans X401.bd e), q⟩)
                              have d414 : ∀ b, some b = vb.ownBlock → some b = v408.ownBlock → False := fun b h1 h2 => (hb412 b h2).elim (fun e => (fun b h1 h2 => hdis b h2 h1) b h1 e) (fun e => by have := (ho404.blk b h1).2.1; omega)
                              have X415 := Ext.thru X393 hx410 (fun b hb => Nat.le_trans o287 (ho403.blk b hb).1.1)
                              have X416 := Ext.thru X394 hx410 (fun b hb => Nat.le_trans o288 (ho403.blk b hb).1.1)
                              have X417 := Ext.thru X395 hx410 (fun b hb => Nat.le_trans o289 (ho403.blk b hb).1.1)
                              have X418 := Ext.thru X396 hx410 (fun b hb => Nat.le_trans o290 (ho403.blk b hb).1.1)
                              have X419 := Ext.thru X397 hx410 (fun b hb => Nat.le_trans o291 (ho403.blk b hb).1.1)
                              have X420 := Ext.thru X398 hx410 (fun b hb => Nat.le_trans o292 (ho403.blk b hb).1.1)
                              have X421 := Ext.thru X399 hx410 (fun b hb => Nat.le_trans o293 (ho403.blk b hb).1.1)
                              have X422 := Ext.thru X400 hx410 (fun b hb => Nat.le_trans o294 (ho403.blk b hb).1.1)
                              have X423 := Ext.thru X401 hx410 (fun b hb => Nat.le_trans o295 (ho403.blk b hb).1.1)
                              have ho426 := ho404.but hx410 (fun b h1 _ h2 => hdis b h2 h1.2) (fun b hb => (ho403.blk b hb).2.2)
                              have ho427 := ho392.but hx410 (fun b hb _ e => Nat.lt_irrefl _ (Nat.lt_of_lt_of_le (a387 b e) hb)) (fun b hb => (ho403.blk b hb).2.2)
                              have hb428 := hb405.but hx410 (fun e => by have q : H269.bd ≤ _ := (ho403.blk _ e).1.1; omega)
                              refine AL.val rfl (.inl rfl) (HV.as rfl) ?_
                              refine AL.nx ?_
                              refine AW.reg ?_
                              refine AL.val rfl (.inl rfl) (HV.mv rfl) ?_
                              refine AL.val rfl (.inl rfl) (HV.mv rfl) ?_
                              refine AL.val rfl (.inl rfl) (HV.mv rfl) ?_
                              refine AL.val rfl (.inl rfl) (HV.mv rfl) ?_
                              obtain ⟨p429, z430, cs431, hz432, hK433, hC434, hP435⟩ := RdK.ix (q := (i : Int)) hr259 sl22 (by omega) (by omega)
                              obtain rfl : cs431 = [.int .i64 z430] := hK433
                              refine AL.val rfl (.inl rfl) (hP435 rfl rfl) ?_
                              refine AL.val rfl (.inl rfl) (HV.ld rfl va2 (cells_first (hC434.ext X422) rfl)) ?_
                              have hb176 := hg.bd _ (List.mem_of_getElem? hz432)
                              obtain ⟨p436, z437, cs438, hz439, hK440, hC441, hP442⟩ := RdK.ix (q := z430) hr197 sl22 (by omega) (by omega)
                              obtain rfl : cs438 = [.int .i64 z437] := hK440
                              refine AL.val rfl (.inl rfl) (hP442 rfl rfl) ?_
                              refine AL.val rfl (.inl rfl) (HV.ld rfl va2 (cells_first (hC441.ext X420) rfl)) ?_
                              have X443 := Ext.refl H409
                              have y444 := hb428.lt
                              have o445 := X415.bd
                              have o446 := X416.bd
                              have o447 := X417.bd
                              have o448 := X418.bd
                              have o449 := X419.bd
                              have o450 := X420.bd
                              have o451 := X421.bd
                              have o452 := X422.bd
                              have o453 := X423.bd
                              have o454 := X443.bd
                              have a455 := ho413.ltb
                              have a456 := ho426.ltb
                              have a457 := ho427.ltb
                              refine AL.w rfl (.inl rfl) (WV.bsK (K := kI) (l := ([z437] : List Int)) (css := [[.int .i64 z437]]) sl22 rfl rfl (by first | rfl | (simp [Instr.fill, Value.cells, kI, kB, kU, kU8, kS, Kd.sc]; done) | (simp [Instr.fill, Value.cells, kI, kB, kU, kU8, kS, Kd.sc, rng1, rng2, rng3, rng4, kP])) rfl (segs_cons rfl segs_nil)) ?_
                              rintro v458 H459 ⟨hx460, ho461⟩
                              have X462 := Ext.trans X415 hx460
                              have X463 := Ext.trans X416 hx460
                              have X464 := Ext.trans X417 hx460
                              have X465 := Ext.trans X418 hx460
                              have X466 := Ext.trans X419 hx460
                              have X467 := Ext.trans X420 hx460
                              have X468 := Ext.trans X421 hx460
                              have X469 := Ext.trans X422 hx460
                              have X470 := Ext.trans X423 hx460
                              have X471 := Ext.trans X443 hx460
                              have ho472 := ho413.ext hx460
                              have ho473 := ho426.ext hx460
                              have ho474 := ho427.ext hx460
                              have hb475 := hb428.ext hx460
                              have X477 := Ext.refl H459
                              refine AL.w rfl (.inl rfl) (WV.apk sl22 rfl rfl ho473 ho461.rd (by simp; omega) (by simp; omega) (fun b hb _ e => Nat.lt_irrefl _ (Nat.lt_of_lt_of_le (a456 b e) hb))) ?_
                              rintro v478 H479 ⟨hx480, ho481, hb482⟩
                              have ho483 := ho481.narrow (ok' := fun b => H269.bd ≤ b ∧ some b = v478.ownBlock) kI_flat (fun b q => ⟨(hb482 b q).elim (fun e => (ho473.blk b e).1.1) (fun e => Nat.le_trans X470.bd e), q⟩)
                              have d484 : ∀ b, some b = v408.ownBlock → some b = v478.ownBlock → False := fun b h1 h2 => (hb482 b h2).elim (fun e => (fun b h1 h2 => d414 b h2 h1) b h1 e) (fun e => by have := (ho472.blk b h1).2.1; omega)
                              have X485 := Ext.thru X462 hx480 (fun b hb => Nat.le_trans o287 (ho473.blk b hb).1.1)
                              have X486 := Ext.thru X463 hx480 (fun b hb => Nat.le_trans o288 (ho473.blk b hb).1.1)
                              have X487 := Ext.thru X464 hx480 (fun b hb => Nat.le_trans o289 (ho473.blk b hb).1.1)
                              have X488 := Ext.thru X465 hx480 (fun b hb => Nat.le_trans o290 (ho473.blk b hb).1.1)
                              have X489 := Ext.thru X466 hx480 (fun b hb => Nat.le_trans o291 (ho473.blk b hb).1.1)
                              have X490 := Ext.thru X467 hx480 (fun b hb => Nat.le_trans o292 (ho473.blk b hb).1.1)
                              have X491 := Ext.thru X468 hx480 (fun b hb => Nat.le_trans o293 (ho473.blk b hb).1.1)
                              have X492 := Ext.thru X469 hx480 (fun b hb => Nat.le_trans o294 (ho473.blk b hb).1.1)
                              have X493 := Ext.thru X470 hx480 (fun b hb => Nat.le_trans o295 (ho473.blk b hb).1.1)
                              have ho496 := ho472.but hx480 (fun b h1 _ h2 => (fun b h1 h2 => d414 b h2 h1) b h1.2 h2) (fun b hb => (ho473.blk b hb).2.2)
                              have ho497 := ho474.but hx480 (fun b hb _ e => Nat.lt_irrefl _ (Nat.lt_of_lt_of_le (a388 b e) hb)) (fun b hb => (ho473.blk b hb).2.2)
                              have ho498 := ho461.but hx480 (fun b hb _ e => Nat.lt_irrefl _ (Nat.lt_of_lt_of_le (a456 b e) hb)) (fun b hb => (ho473.blk b hb).2.2)
                              have hb499 := hb475.but hx480 (fun e => by have q : H269.bd ≤ _ := (ho473.blk _ e).1.1; omega)
                              refine AL.val rfl (.inl rfl) (HV.as rfl) ?_
                              refine AL.nil ?_
                              refine nrm_blk (nrm_and ?_)
                              refine AW.reg ?_
                              refine AL.val rfl (.inl rfl) (HV.mv rfl) ?_
                              refine AL.val rfl (.inl rfl) (HV.add rfl rfl (by omega)) ?_
                              refine AL.val rfl (.inl rfl) (HV.as rfl) ?_
                              refine AL.nil ?_
                              refine nrm_and ?_
                              exact ⟨(i + 1, v408, v478), ⟨X485, X486, X487, X488, X489, X490, X491, X492, X493, hb499, by omega, d484, by rw [part_snoc hg hz360 hz367]; exact ho496, by rw [vals_snoc hg hz432 hz439]; exact ho483, trivial⟩, by first | omega | (dsimp only; omega), ⟨rfl, rfl, rfl, rfl, rfl, rfl, rfl, rfl, rfl, trivial⟩⟩
                            · -- else
                              refine AW.exit ?_
                              refine ex_and (ex_and (ex_blk ?_))
                              refine nrm_and ?_
                              refine AW.rs ?_
                              have X500 := Ext.refl H345
                              have hgt_ : g.take i = g := List.take_of_length_le (by omega)
                              have hr501 : RdK (kP kI kI) W H345 (fun _ => True) va (dl p cv (gpt g)) := by have q := hoA.rd.okk (ok' := fun _ => True) (fun _ _ _ => trivial); rw [hgt_] at q; exact q
                              have hr502 : RdK kI W H345 (fun _ => True) vb (gvs p cv g) := by have q := hoB.rd.okk (ok' := fun _ => True) (fun _ _ _ => trivial); rw [hgt_] at q; exact q
                              refine AL.val rfl (.inl rfl) (HV.mv rfl) ?_
                              refine AL.val rfl (.inl rfl) (HV.mv rfl) ?_
                              have hml : m ≤ g.length := by first | assumption | (simp at *; omega)
                              have hno : ¬ (((dl p cv (gpt g)).length : Int) = 0) := by have q := dl_len p cv (gpt g); rw [gpt_len] at q; omega
                              have hrb := rb_curve hP.1 (show 1 ≤ n ∧ n ≤ 4 by omega) (show 1 ≤ m ∧ m ≤ n by omega) (show (n : Int) < p by omega) hg hcvm hcv.2.1 hml
                              refine AL.w rfl (.inl rfl) (WV.call fn56 rfl ((by have q := openA_ok hr501 (vS_dl hP.1 (gpt_pts hg (by omega))) 0 (by omega); rw [if_neg hno, if_neg hno, dl_open hP.1 (gpt_pts hg (by omega)) (by rw [gpt_len]; omega) 0, val_zero hcv.2.1 hp0] at q; exact q))) ?_
                              rintro _ H503 ⟨rfl, hx504⟩
                              have X505 := Ext.trans X346 hx504
                              have X506 := Ext.trans X347 hx504
                              have X507 := Ext.trans X348 hx504
                              have X508 := Ext.trans X349 hx504
                              have X509 := Ext.trans X350 hx504
                              have X510 := Ext.trans X351 hx504
                              have X511 := Ext.trans X352 hx504
                              have X512 := Ext.trans X353 hx504
                              have X513 := Ext.trans X354 hx504
                              have X514 := Ext.trans X500 hx504
                              have hb515 := hb355.ext hx504
                              refine AL.val rfl (.inl rfl) (HV.mv rfl) ?_
                              refine AL.val rfl (.inl rfl) (HV.ex rfl rfl) ?_
                              refine AL.val rfl (.inl rfl) (HV.ex rfl rfl) ?_
                              refine AL.val rfl (.inl rfl) (HV.as rfl) ?_
                              refine AL.val rfl (.inl rfl) (HV.as rfl) ?_
                              refine AL.nx ?_
                              refine AW.rs ?_
                              refine AL.val rfl (.inl rfl) (HV.lda (cs := [.int .i64 (n : Int), u24, .int .i64 p, .int .i64 (m : Int), v25]) rfl va31 (at_cells hb515 rfl)) ?_
                              refine AL.val rfl (.inl rfl) (HV.mv rfl) ?_
                              refine AL.val rfl (.inl rfl) (HV.mv rfl) ?_
                              refine AL.w rfl (.inl rfl) (WV.call fn33 rfl ((by have q := implRB_ok (n : Int) p (m : Int) (hr28.ext X506) (hr29.ext X506) (hr259.ext X512) (hr502.ext X514); rw [hrb.1, hrb.2] at q; exact q))) ?_
                              rintro _ H516 ⟨rfl, hx517⟩
                              have X518 := Ext.trans X505 hx517
                              have X519 := Ext.trans X506 hx517
                              have X520 := Ext.trans X507 hx517
                              have X521 := Ext.trans X508 hx517
                              have X522 := Ext.trans X509 hx517
                              have X523 := Ext.trans X510 hx517
                              have X524 := Ext.trans X511 hx517
                              have X525 := Ext.trans X512 hx517
                              have X526 := Ext.trans X513 hx517
                              have X527 := Ext.trans X514 hx517
                              have hb528 := hb515.ext hx517
                              refine AL.val rfl (.inl rfl) (HV.mv rfl) ?_
                              refine AL.val rfl (.inl rfl) (HV.ex rfl rfl) ?_
                              refine AL.val rfl (.inl rfl) (HV.ex rfl rfl) ?_
                              refine AL.val rfl (.inl rfl) (HV.as rfl) ?_
                              refine AL.val rfl (.inl rfl) (HV.as rfl) ?_
                              refine AL.nx ?_
                              refine AW.rs ?_
                              refine AL.val rfl (.inl rfl) (HV.mv rfl) ?_
                              refine AL.val rfl (.inl rfl) (HV.eqi rfl rfl) ?_
                              refine AL.val rfl (.inl rfl) (HV.mv rfl) ?_
                              by_cases c529 : (0 : Int) = 0
                              · -- true
                                have c529_ : decide ((0 : Int) = 0) = true := decide_eq_true c529
                                rw [c529_]
                                refine AL.val rfl (.inr ⟨_, _, _, rfl, rfl, rfl⟩) (HV.mv rfl) ?_
                                refine AL.val rfl (.inr ⟨_, _, _, rfl, rfl, rfl⟩) (HV.eqi rfl rfl) ?_
                                refine AL.val rfl (.inl rfl) (HV.pickT rfl rfl) ?_
                                refine AL.val rfl (.inl rfl) (HV.mv rfl) ?_
                                by_cases c530 : (0 : Int) = 0
                                · -- true
                                  have c530_ : decide ((0 : Int) = 0) = true := decide_eq_true c530
                                  rw [c530_]
                                  refine AL.val rfl (.inr ⟨_, _, _, rfl, rfl, rfl⟩) (HV.mv rfl) ?_
                                  refine AL.val rfl (.inr ⟨_, _, _, rfl, rfl, rfl⟩) (HV.mv rfl) ?_
                                  refine AL.val rfl (.inr ⟨_, _, _, rfl, rfl, rfl⟩) (HV.eqi rfl rfl) ?_
                                  refine AL.val rfl (.inl rfl) (HV.pickT rfl rfl) ?_
                                  refine AL.val rfl (.inl rfl) (HV.mv rfl) ?_
                                  by_cases c531 : (cv.getD 0 0) = (cv.getD 0 0)
                                  · -- true
                                    have c531_ : decide ((cv.getD 0 0) = (cv.getD 0 0)) = true := decide_eq_true c531
                                    rw [c531_]
                                    refine AL.val rfl (.inr ⟨_, _, _, rfl, rfl, rfl⟩) (HV.mv rfl) ?_
                                    refine AL.val rfl (.inr ⟨_, _, _, rfl, rfl, rfl⟩) (HV.mv rfl) ?_
                                    obtain ⟨p532, z533, cs534, hz535, hK536, hC537, hP538⟩ := RdK.ix (q := 0) hr123 sl22 (by omega) (by rw [fullL_len hcvm]; omega)
                                    obtain rfl : cs534 = [.int .i64 z533] := hK536
                                    refine AL.val rfl (.inr ⟨_, _, _, rfl, rfl, rfl⟩) (hP538 rfl rfl) ?_
                                    refine AL.val rfl (.inr ⟨_, _, _, rfl, rfl, rfl⟩) (HV.ld rfl va2 (cells_first (hC537.ext X521) rfl)) ?_
                                    refine AL.val rfl (.inr ⟨_, _, _, rfl, rfl, rfl⟩) (HV.eqi rfl rfl) ?_
                                    refine AL.val rfl (.inl rfl) (HV.pickT rfl rfl) ?_
                                    refine AL.val rfl (.inl rfl) (HV.as rfl) ?_
                                    refine AL.nx ?_
                                    refine AW.ret ?_
                                    refine post_one rfl rfl ?_ (.inr rfl)
                                    exact ⟨congrArg Value.bool (by first | (exact decide_eq_true (full_zero hz535).symm) | (simp at c531; done)), X518⟩
                                  · -- false
                                    have c531_ : decide ((cv.getD 0 0) = (cv.getD 0 0)) = false := decide_eq_false c531
                                    rw [c531_]
                                    refine AL.off rfl rfl (by decide) rfl ?_
                                    refine AL.off rfl rfl (by decide) rfl ?_
                                    refine AL.off rfl rfl (by decide) rfl ?_
                                    refine AL.off rfl rfl (by decide) rfl ?_
                                    refine AL.off rfl rfl (by decide) rfl ?_
                                    refine AL.val rfl (.inl rfl) (HV.pickF rfl rfl) ?_
                                    refine AL.val rfl (.inl rfl) (HV.as rfl) ?_
                                    refine AL.nx ?_
                                    refine AW.ret ?_
                                    refine post_one rfl rfl ?_ (.inr rfl)
                                    exfalso; first | omega | exact c531 rfl | (simp at c531; done) | (rw [hdd] at c531; simp at c531; done) | exact c531 (deal_at (by assumption) (by assumption))
                                · -- false
                                  have c530_ : decide ((0 : Int) = 0) = false := decide_eq_false c530
                                  rw [c530_]
                                  refine AL.off rfl rfl (by decide) rfl ?_
                                  refine AL.off rfl rfl (by decide) rfl ?_
                                  refine AL.off rfl rfl (by decide) rfl ?_
                                  refine AL.val rfl (.inl rfl) (HV.pickF rfl rfl) ?_
                                  refine AL.val rfl (.inl rfl) (HV.mv rfl) ?_
                                  refine AL.off rfl rfl (by decide) rfl ?_
                                  refine AL.off rfl rfl (by decide) rfl ?_
                                  refine AL.off rfl rfl (by decide) rfl ?_
                                  refine AL.off rfl rfl (by decide) rfl ?_
                                  refine AL.off rfl rfl (by decide) rfl ?_
                                  refine AL.val rfl (.inl rfl) (HV.pickF rfl rfl) ?_
                                  refine AL.val rfl (.inl rfl) (HV.as rfl) ?_
                                  refine AL.nx ?_
                                  refine AW.ret ?_
                                  refine post_one rfl rfl ?_ (.inr rfl)
                                  exfalso; first | omega | exact c530 rfl | (simp at c530; done) | (rw [hdd] at c530; simp at c530; done) | exact c530 (deal_at (by assumption) (by assumption))
                              · -- false
                                have c529_ : decide ((0 : Int) = 0) = false := decide_eq_false c529
                                rw [c529_]
                                refine AL.off rfl rfl (by decide) rfl ?_
                                refine AL.off rfl rfl (by decide) rfl ?_
                                refine AL.val rfl (.inl rfl) (HV.pickF rfl rfl) ?_
                                refine AL.val rfl (.inl rfl) (HV.mv rfl) ?_
                                refine AL.off rfl rfl (by decide) rfl ?_
                                refine AL.off rfl rfl (by decide) rfl ?_
                                refine AL.off rfl rfl (by decide) rfl ?_
                                refine AL.val rfl (.inl rfl) (HV.pickF rfl rfl) ?_
                                refine AL.val rfl (.inl rfl) (HV.mv rfl) ?_
                                refine AL.off rfl rfl (by decide) rfl ?_
                                refine AL.off rfl rfl (by decide) rfl ?_
                                refine AL.off rfl rfl (by decide) rfl ?_
                                refine AL.off rfl rfl (by decide) rfl ?_
                                refine AL.off rfl rfl (by decide) rfl ?_
                                refine AL.val rfl (.inl rfl) (HV.pickF rfl rfl) ?_
                                refine AL.val rfl (.inl rfl) (HV.as rfl) ?_
                                refine AL.nx ?_
                                refine AW.ret ?_
                                refine post_one rfl rfl ?_ (.inr rfl)
                                exfalso; first | omega | exact c529 rfl | (simp at c529; done) | (rw [hdd] at c529; simp at c529; done) | exact c529 (deal_at (by assumption) (by assumption))
                        · -- true
                          have c283_ : (!decide (m ≤ g.length)) = true := by rw [decide_eq_false c283]; rfl
                          rw [c283_]
                          refine AL.off rfl rfl (by decide) rfl ?_
                          refine AL.off rfl rfl (by decide) rfl ?_
                          refine AL.off rfl rfl (by decide) rfl ?_
                          refine AL.val rfl (.inl rfl) (HV.pickT rfl rfl) ?_
                          refine AL.nx ?_
                          refine AW.cond rfl (fun _ => ?_) (fun h => by cases h)
                          refine AW.rs ?_
                          refine AL.val rfl (.inl rfl) (HV.as rfl) ?_
                          refine AL.nx ?_
                          refine AW.ret ?_
                          refine ret_and ?_
                          refine post_one rfl rfl ?_ (.inr rfl)
                          exact ⟨rfl, X271⟩
end Go.Proofs.Yticobjbjejpomaa.VC

