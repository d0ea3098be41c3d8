/- Walks. -/
import Derived.Test.YtfjihanfiliniaaVFP
set_option linter.unusedVariables false
set_option linter.unusedSimpArgs false
namespace Go.Proofs.Ytfjihanfiliniaa.VC
open Go Go.RowKit
variable {W : World} {H : Hp}

set_option maxRecDepth 100000 in
theorem has_ok (s j : Nat) (hs : s < 128) (hj : j < 7) : ACalls Try.prog W 89 #[.int .u64 (s : Int), .int .i64 (j : Int)] H (fun r H' => r = .bool (decide (s / 2 ^ j % 2 = 1)) ∧ Ext H H') := by
  refine ACalls.of (args := [.int .u64 (s : Int), .int .i64 (j : Int)]) Try.func89 rfl rfl ?_
  have X0 := Ext.refl H
  refine AW.rs ?_
  refine AL.val rfl (.inl rfl) (HV.as rfl) ?_
  refine AL.nx ?_
  refine AW.rs ?_
  refine AL.val rfl (.inl rfl) (HV.mv rfl) ?_
  refine AL.val rfl (.inl rfl) (HV.mv rfl) ?_
  refine AL.val rfl (.inl rfl) (HV.shr rfl rfl (by omega)) ?_
  refine AL.val rfl (.inl rfl) (HV.bits (by simp) rfl rfl) ?_
  refine AL.val rfl (.inl rfl) (HV.eqi rfl rfl) ?_
  refine AL.val rfl (.inl rfl) (HV.as rfl) ?_
  refine AL.nx ?_
  refine AW.ret ?_
  refine post_one rfl rfl ?_ (.inr rfl)
  exact ⟨congrArg Value.bool (decide_eq_decide.2 (by rw [shr_u s hj, bit_of (.inr rfl) hs]; omega)), X0⟩

set_option maxRecDepth 100000 in
theorem group_ok (q : Nat) (hq : q < 128) : ACalls Try.prog W 74 #[.int .u64 (q : Int)] H (fun r H' => Ext H H' ∧ OwnK kI 2 W H' (fun b => H.bd ≤ b) r (grpL q 7)) := by
  refine ACalls.of (args := [.int .u64 (q : Int)]) Try.func74 rfl rfl ?_
  have X0 := Ext.refl H
  refine AW.rs ?_
  refine AL.val rfl (.inl rfl) (HV.as rfl) ?_
  refine AL.nx ?_
  refine AW.rs ?_
  have o1 := X0.bd
  refine AL.w rfl (.inl rfl) (WV.bsK (K := kI) (l := ([] : List Int)) (css := []) sl22 rfl rfl (by first | rfl | (simp [Instr.fill, Value.cells, kI, kB, kU, kS, Kd.sc]; done) | (simp [Instr.fill, Value.cells, kI, kB, kU, kS, Kd.sc, rng1, rng2, rng3, rng4, kP])) rfl segs_nil) ?_
  rintro v2 H3 ⟨hx4, ho5⟩
  have X6 := Ext.trans X0 hx4
  refine AL.val rfl (.inl rfl) (HV.as rfl) ?_
  refine AL.nx ?_
  refine AW.seq ?_
  refine AW.rs ?_
  refine AL.val rfl (.inl rfl) (HV.as rfl) ?_
  refine AL.nx ?_
  refine AW.block ?_
  refine AW.loop (σ := Nat × Value × List Int) (fun ⟨h, vv, k⟩ => [(0, .int .u64 (q : Int)), (2, (.slice none 0 0)), (3, vv), (4, .int .i64 (h : Int))]) (fun ⟨h, vv, k⟩ H' => Ext H H' ∧ h ≤ 7 ∧ k = grpL q h ∧ k.length ≤ h ∧ OwnK kI 2 W H' (fun b => H.bd ≤ b) vv k ∧ True) (fun ⟨h, vv, k⟩ => 7 - h) (0, v2, (([] : List Int) : List Int)) ⟨X6, by omega, rfl, Nat.le_refl _, ho5, trivial⟩ ⟨rfl, rfl, rfl, rfl, trivial⟩ ?_
  rintro ⟨h, vv, k⟩ H8 ⟨X9, hh, hk, hk2, hoL, _⟩
  refine AW.seq ?_
  refine AW.rs ?_
  refine AL.val rfl (.inl rfl) (HV.mv rfl) ?_
  refine AL.val rfl (.inl rfl) (HV.lti rfl rfl) ?_
  refine AL.nx ?_
  refine AW.ifd rfl (fun c10 => ?_) (fun c10 => ?_)
  · -- then
    refine AW.skip ?_
    refine nrm_and ?_
    refine AW.seq ?_
    refine AW.block ?_
    refine AW.rs ?_
    refine AL.val rfl (.inl rfl) (HV.mv rfl) ?_
    refine AL.val rfl (.inl rfl) (HV.mv rfl) ?_
    refine AL.w rfl (.inl rfl) (WV.call fn89 rfl (has_ok (W := W) q h hq (by omega))) ?_
    rintro _ H11 ⟨rfl, hx12⟩
    have X13 := Ext.trans X9 hx12
    have ho14 := hoL.ext hx12
    refine AL.nx ?_
    refine AW.ifd rfl (fun c15 => ?_) (fun c15 => ?_)
    · -- then
      refine AW.reg ?_
      refine AL.val rfl (.inl rfl) (HV.mv rfl) ?_
      refine AL.val rfl (.inl rfl) (HV.mv rfl) ?_
      have X16 := Ext.refl H11
      have o17 := X13.bd
      have o18 := X16.bd
      have a19 := ho14.ltb
      refine AL.w rfl (.inl rfl) (WV.bsK (K := kI) (l := ([(h : Int)] : List Int)) (css := [[.int .i64 (h : Int)]]) sl22 rfl rfl (by first | rfl | (simp [Instr.fill, Value.cells, kI, kB, kU, kS, Kd.sc]; done) | (simp [Instr.fill, Value.cells, kI, kB, kU, kS, Kd.sc, rng1, rng2, rng3, rng4, kP])) rfl (segs_cons rfl segs_nil)) ?_
      rintro v20 H21 ⟨hx22, ho23⟩
      have X24 := Ext.trans X13 hx22
      have X25 := Ext.trans X16 hx22
      have ho26 := ho14.ext hx22
      have X28 := Ext.refl H21
      refine AL.w rfl (.inl rfl) (WV.apk sl22 rfl rfl ho26 ho23.rd (by rw [List.length_singleton]; omega) (by rw [List.length_singleton]; omega) (fun b hb _ e => Nat.lt_irrefl _ (Nat.lt_of_lt_of_le (a19 b e) hb))) ?_
      rintro v29 H30 ⟨hx31, ho32, hb33⟩
      have ho34 := ho32.narrow (ok' := fun b => H.bd ≤ b) kI_flat (fun b q => (hb33 b q).elim (fun e => (ho26.blk b e).1) (fun e => Nat.le_trans X24.bd e))
      have X35 := Ext.thru X24 hx31 (fun b hb => Nat.le_trans o1 (ho26.blk b hb).1)
      refine AL.val rfl (.inl rfl) (HV.as rfl) ?_
      refine AL.nil ?_
      refine nrm_blk (nrm_and ?_)
      refine AW.reg ?_
      refine AL.val rfl (.inl rfl) (HV.mv rfl) ?_
      refine AL.val rfl (.inl rfl) (HV.add rfl rfl (by omega)) ?_
      refine AL.val rfl (.inl rfl) (HV.as rfl) ?_
      refine AL.nil ?_
      refine nrm_and ?_
      exact ⟨(h + 1, v29, (k ++ (([(h : Int)] : List Int) : List Int))), ⟨X35, by omega, by rw [grpL_succ, if_pos (by assumption), hk], by first | omega | (rw [List.length_append]; simp; omega), ho34, trivial⟩, by first | omega | (dsimp only; omega), ⟨rfl, rfl, rfl, rfl, trivial⟩⟩
    · -- else
      refine AW.skip ?_
      refine nrm_blk (nrm_and ?_)
      refine AW.reg ?_
      refine AL.val rfl (.inl rfl) (HV.mv rfl) ?_
      refine AL.val rfl (.inl rfl) (HV.add rfl rfl (by omega)) ?_
      refine AL.val rfl (.inl rfl) (HV.as rfl) ?_
      refine AL.nil ?_
      refine nrm_and ?_
      exact ⟨(h + 1, vv, k), ⟨X13, by omega, by rw [grpL_succ, if_neg (by assumption), hk, List.append_nil], by first | omega | (rw [List.length_append]; simp; omega), ho14, trivial⟩, by first | omega | (dsimp only; omega), ⟨rfl, rfl, rfl, rfl, trivial⟩⟩
  · -- else
    refine AW.exit ?_
    refine ex_and (ex_and (ex_blk ?_))
    refine nrm_and ?_
    refine AW.rs ?_
    refine AL.val rfl (.inl rfl) (HV.mv rfl) ?_
    refine AL.val rfl (.inl rfl) (HV.as rfl) ?_
    refine AL.nx ?_
    refine AW.ret ?_
    refine post_one rfl rfl ?_ (.inr rfl)
    exact ⟨X9, by obtain rfl : h = 7 := (by omega); subst hk; exact hoL.okk (fun b hb _ => Nat.le_trans o1 hb)⟩

set_option maxRecDepth 100000 in
theorem ins_ok2 {g n c i bu cu : Nat} {cells new : List Value} (hb : At W H g ⟨73, cells, c * 2⟩) (hu : At W H bu ⟨73, new, cu * 2⟩) (hne : bu ≠ g) (hcl : cells.length = n * 2) (hnl : new.length = 2) (h1 : ∀ x ∈ cells, x.oneCell' = true) (h2 : ∀ x ∈ new, x.oneCell' = true) (hi : i < n) (hnc : n ≤ c) (hcm : c ≤ maxLen) (hn : n ≤ 1000000) : ACalls Try.prog W 77 #[.slice (some ⟨g, 0, none⟩) (n) (c), .int .i64 (i : Int), .slice (some ⟨bu, 0, none⟩) (1) (cu)] H (fun r H' => (∃ g' c', r = .slice (some ⟨g', 0, none⟩) (n + 1) c' ∧ (g' = g ∨ H.bd ≤ g') ∧ n + 1 ≤ c' ∧ c' ≤ maxLen ∧ At W H' g' ⟨73, cells.take (i * 2) ++ new ++ cells.drop (i * 2), c' * 2⟩) ∧ But (fun b => b = g) H H') := by
  refine ACalls.of (args := [.slice (some ⟨g, 0, none⟩) (n) (c), .int .i64 (i : Int), .slice (some ⟨bu, 0, none⟩) (1) (cu)]) Try.func77 rfl rfl ?_
  have X0 := Ext.refl H
  have hgl := hb.lt
  have hul := hu.lt
  have hdl : (cells.drop (i * 2)).length = (n - i) * 2 := by rw [List.length_drop, hcl, Nat.sub_mul]
  have htl : (cells.take (i * 2)).length = i * 2 := by rw [List.length_take, hcl]; omega
  have h1d : ∀ x ∈ cells.drop (i * 2), x.oneCell' = true := fun x hx => h1 x (List.mem_of_mem_drop hx)
  have hc2 : n * 2 ≤ c * 2 := Nat.mul_le_mul_right 2 hnc
  refine AW.rs ?_
  refine AL.val rfl (.inl rfl) (HV.as rfl) ?_
  refine AL.nx ?_
  refine AW.rs ?_
  refine AL.val rfl (.inl rfl) (HV.mv rfl) ?_
  refine AL.val rfl (.inl rfl) (HV.mv rfl) ?_
  refine AL.val rfl (.inl rfl) (HV.ctL' sl67 rfl rfl (by omega) (by omega)) ?_
  refine AL.nx ?_
  refine AW.rs ?_
  refine AL.val rfl (.inl rfl) (HV.mv rfl) ?_
  refine AL.val rfl (.inl rfl) (HV.lenq Try.underlying67 rfl) ?_
  refine AL.val rfl (.inl rfl) (HV.as rfl) ?_
  refine AL.nx ?_
  refine AW.seq ?_
  refine AW.rs ?_
  refine AL.val rfl (.inl rfl) (HV.mv rfl) ?_
  refine AL.val rfl (.inl rfl) (HV.eqi rfl rfl) ?_
  refine AL.nx ?_
  refine AW.ifd rfl (fun c1 => ?_) (fun c1 => ?_)
  · -- then
    refine AW.rs ?_
    refine AL.val rfl (.inl rfl) (HV.mv rfl) ?_
    refine AL.val rfl (.inl rfl) (HV.as rfl) ?_
    refine AL.nx ?_
    refine AW.ret ?_
    refine ret_and ?_
    refine post_one rfl rfl ?_ (.inr rfl)
    exact absurd c1 (by decide)
  · -- else
    refine AW.skip ?_
    refine nrm_and ?_
    refine AW.rs ?_
    refine AL.val rfl (.inl rfl) (HV.mv rfl) ?_
    refine AL.val rfl (.inl rfl) (HV.lenq Try.underlying67 rfl) ?_
    refine AL.val rfl (.inl rfl) (HV.as rfl) ?_
    refine AL.nx ?_
    refine AW.seq ?_
    refine AW.rs ?_
    refine AL.val rfl (.inl rfl) (HV.mv rfl) ?_
    refine AL.val rfl (.inl rfl) (HV.mv rfl) ?_
    refine AL.val rfl (.inl rfl) (HV.eqi rfl rfl) ?_
    refine AL.nx ?_
    refine AW.ifd rfl (fun c2 => ?_) (fun c2 => ?_)
    · -- then
      refine AW.rs ?_
      refine AL.val rfl (.inl rfl) (HV.mv rfl) ?_
      refine AL.val rfl (.inl rfl) (HV.mv rfl) ?_
      exact absurd c2 (by omega)
    · -- else
      refine AW.skip ?_
      refine nrm_and ?_
      refine AW.seq ?_
      refine AW.rs ?_
      refine AL.val rfl (.inl rfl) (HV.mv rfl) ?_
      refine AL.val rfl (.inl rfl) (HV.mv rfl) ?_
      refine AL.val rfl (.inl rfl) (HV.add rfl rfl (by omega)) ?_
      refine AL.val rfl (.inl rfl) (HV.mv rfl) ?_
      refine AL.val rfl (.inl rfl) (HV.cap Try.underlying67 rfl) ?_
      refine AL.val rfl (.inl rfl) (HV.gti rfl rfl) ?_
      refine AL.nx ?_
      refine AW.ifd rfl (fun c3 => ?_) (fun c3 => ?_)
      · -- then
        refine AW.rs ?_
        refine AL.val rfl (.inl rfl) (HV.mv rfl) ?_
        refine AL.val rfl (.inl rfl) (HV.mv rfl) ?_
        refine AL.val rfl (.inl rfl) (HV.ctH sl67 rfl rfl rfl (by omega)) ?_
        refine AL.val rfl (.inl rfl) (HV.mv rfl) ?_
        refine AL.val rfl (.inl rfl) (HV.mv rfl) ?_
        refine AL.val rfl (.inl rfl) (HV.add rfl rfl (by omega)) ?_
        refine AL.val rfl (.inl rfl) (HV.mv rfl) ?_
        refine AL.val rfl (.inl rfl) (HV.sub rfl rfl (by omega)) ?_
        refine AL.w rfl (.inl rfl) (WV.apz (i := i) (c := c) (k := n + 1 - i) (olds := cells.take (i * 2)) sl67 Try.underlying3 rfl rfl (by omega) htl hb.tk (by omega) (by omega) (by omega) (by omega)) ?_
        rintro _ H1 ⟨b1, c1, rfl, hc1, hc1m, hx1, hn1, hb11⟩
        have hb1_ := hb.ext hx1
        have hu1_ := hu.ext hx1
        have hc12 : (n + 1) * 2 ≤ c1 * 2 := Nat.mul_le_mul_right 2 (by omega)
        refine AL.val rfl (.inl rfl) (HV.as rfl) ?_
        refine AL.nx ?_
        refine AW.rs ?_
        refine AL.val rfl (.inl rfl) (HV.mv rfl) ?_
        refine AL.val rfl (.inl rfl) (HV.mv rfl) ?_
        refine AL.val rfl (.inl rfl) (HV.ctL sl67 rfl rfl rfl (by omega) (by omega)) ?_
        refine AL.val rfl (.inl rfl) (HV.mv rfl) ?_
        refine AL.w rfl (.inl rfl) (WV.cp (cs := new) (p := cells.take (i * 2) ++ new) sl67 rfl rfl hb11 (by rw [hnl, Nat.min_eq_left (by omega)]) hu1_.al (by show i * 2 ≤ (cells.take (i * 2)).length; omega) (by show i * 2 + new.length ≤ c1 * 2; omega) h2 (pre_end htl rfl)) ?_
        rintro _ H2 ⟨hx2, hb12⟩
        have hb2_ := hb1_.but hx2 (by omega)
        have hy2 : But (fun b => b = g) H H2 := (hx1.but _).thru hx2 (fun b e => by omega)
        refine AL.nx ?_
        refine AW.seq ?_
        refine AW.draw' [0, 0, 0, 6, 15, 0, 0, 96, 255] mixed (by rfl) ?_
        refine Dr.read 0 _ 46 _ rfl rfl rfl rfl rfl (RV.of (by intro _ _ h; cases h) (.inl rfl) (fun _ xd => HV.mv rfl)) ?_
        refine Dr.read 1 _ 47 _ rfl rfl rfl rfl rfl (RV.of (by intro _ _ h; cases h) (.inl rfl) (fun _ xd => HV.mv rfl)) ?_
        refine Dr.read 2 _ 48 _ rfl rfl rfl rfl rfl (RV.of (by intro _ _ h; cases h) (.inl rfl) (fun _ xd => HV.mv rfl)) ?_
        refine Dr.read 3 _ 49 _ rfl rfl rfl rfl rfl (RV.of (by intro _ _ h; cases h) (.inl rfl) (fun _ xd => HV.add rfl rfl (by omega))) ?_
        refine Dr.read 4 _ 50 _ rfl rfl rfl rfl rfl (RV.of (by intro _ _ h; cases h) (.inl rfl) (fun _ xd => HV.ctL (i := i + 1) sl67 rfl rfl (by omega) (by omega) (by omega))) ?_
        refine Dr.read 5 _ 51 _ rfl rfl rfl rfl rfl (RV.of (by intro _ _ h; cases h) (.inl rfl) (fun _ xd => HV.mv rfl)) ?_
        refine Dr.read 6 _ 52 _ rfl rfl rfl rfl rfl (RV.of (by intro _ _ h; cases h) (.inl rfl) (fun _ xd => HV.mv rfl)) ?_
        refine Dr.read 7 _ 53 _ rfl rfl rfl rfl rfl (RV.of (by intro _ _ h; cases h) (.inl rfl) (fun _ xd => HV.ctL sl67 rfl rfl rfl (by omega) (by omega))) ?_
        refine Dr.eff 8 _ _ rfl (by intro d h; cases h; exact ⟨rfl, rfl⟩) rfl rfl rfl (EC.of (by intro _ _ h; cases h) (.inl rfl) (WV.cp (cs := cells.drop (i * 2)) (p := cells.take (i * 2) ++ new ++ cells.drop (i * 2)) sl67 rfl rfl hb12 (by rw [hdl]; congr 1; omega) hb2_.dr (by show (i + 1) * 2 ≤ (cells.take (i * 2) ++ new).length; rw [List.length_append]; omega) (by show (i + 1) * 2 + (cells.drop (i * 2)).length ≤ c1 * 2; rw [hdl]; omega) h1d (pre_end (by rw [List.length_append]; omega) rfl))) (fun v H' h => .inr (.inl rfl)) ?_
        rintro _ H3 ⟨hx3, hb13⟩
        have hy4 := hy2.thru hx3 (fun b e => by omega)
        refine Dr.fin rfl ?_
        refine nrm_and ?_
        refine AW.rs ?_
        refine AL.val rfl (.inl rfl) (HV.mv rfl) ?_
        refine AL.val rfl (.inl rfl) (HV.as rfl) ?_
        refine AL.nx ?_
        refine AW.ret ?_
        refine ret_and ?_
        refine post_one rfl rfl ?_ (.inr rfl)
        exact ⟨⟨b1, c1, congrArg (fun z => Value.slice (some ⟨b1, 0, none⟩) z c1) (by omega), .inr hn1, by omega, hc1m, hb13⟩, hy4⟩
      · -- else
        refine AW.skip ?_
        refine nrm_and ?_
        refine AW.rs ?_
        refine AL.val rfl (.inl rfl) (HV.mv rfl) ?_
        refine AL.val rfl (.inl rfl) (HV.mv rfl) ?_
        refine AL.val rfl (.inl rfl) (HV.mv rfl) ?_
        refine AL.val rfl (.inl rfl) (HV.add rfl rfl (by omega)) ?_
        refine AL.val rfl (.inl rfl) (HV.ctH (i := n + 1) sl67 rfl rfl (by omega) (by omega)) ?_
        refine AL.val rfl (.inl rfl) (HV.as rfl) ?_
        refine AL.nx ?_
        refine AW.seq ?_
        refine AW.rs ?_
        refine AL.val rfl (.inl rfl) (HV.mv rfl) ?_
        refine AL.val rfl (.inl rfl) (HV.mv rfl) ?_
        refine AL.val rfl (.inl rfl) (HV.mv rfl) ?_
        refine AL.val rfl (.inl rfl) (HV.mv rfl) ?_
        refine AL.val rfl (.inl rfl) (HV.add rfl rfl (by omega)) ?_
        refine AL.val rfl (.inl rfl) (HV.ctL (i := i + 1) sl67 rfl rfl (by omega) (by omega) (by omega)) ?_
        refine AL.val rfl (.inl rfl) (HV.extern rfl (fun w hw => by rw [run_callFunc_extern Try.func90 (by kernel_rfl) (by kernel_rfl) (by kernel_rfl) (e := Extern.SlicesOverlaps.overlaps #[67, 67] #[4]) (by kernel_rfl), run_overlaps hw sl67 hu hb hne (by show c * 2 ≠ 0; omega)]; rfl)) ?_
        refine AL.val rfl (.inl rfl) (HV.not rfl) ?_
        refine AL.nx ?_
        refine AW.cond rfl (fun _ => ?_) (fun h => by cases h)
        refine AW.seq ?_
        refine AW.draw' [0, 0, 0, 6, 15, 0, 0, 96, 255] mixed (by rfl) ?_
        refine Dr.read 0 _ 69 _ rfl rfl rfl rfl rfl (RV.of (by intro _ _ h; cases h) (.inl rfl) (fun _ xd => HV.mv rfl)) ?_
        refine Dr.read 1 _ 70 _ rfl rfl rfl rfl rfl (RV.of (by intro _ _ h; cases h) (.inl rfl) (fun _ xd => HV.mv rfl)) ?_
        refine Dr.read 2 _ 71 _ rfl rfl rfl rfl rfl (RV.of (by intro _ _ h; cases h) (.inl rfl) (fun _ xd => HV.mv rfl)) ?_
        refine Dr.read 3 _ 72 _ rfl rfl rfl rfl rfl (RV.of (by intro _ _ h; cases h) (.inl rfl) (fun _ xd => HV.add rfl rfl (by omega))) ?_
        refine Dr.read 4 _ 73 _ rfl rfl rfl rfl rfl (RV.of (by intro _ _ h; cases h) (.inl rfl) (fun _ xd => HV.ctL (i := i + 1) sl67 rfl rfl (by omega) (by omega) (by omega))) ?_
        refine Dr.read 5 _ 74 _ rfl rfl rfl rfl rfl (RV.of (by intro _ _ h; cases h) (.inl rfl) (fun _ xd => HV.mv rfl)) ?_
        refine Dr.read 6 _ 75 _ rfl rfl rfl rfl rfl (RV.of (by intro _ _ h; cases h) (.inl rfl) (fun _ xd => HV.mv rfl)) ?_
        refine Dr.read 7 _ 76 _ rfl rfl rfl rfl rfl (RV.of (by intro _ _ h; cases h) (.inl rfl) (fun _ xd => HV.ctL sl67 rfl rfl rfl (by omega) (by omega))) ?_
        refine Dr.eff 8 _ _ rfl (by intro d h; cases h; exact ⟨rfl, rfl⟩) rfl rfl rfl (EC.of (by intro _ _ h; cases h) (.inl rfl) (WV.cp (cs := cells.drop (i * 2)) (p := cells.take ((i + 1) * 2) ++ cells.drop (i * 2)) sl67 rfl rfl hb (by rw [hdl]; congr 1; omega) hb.dr (by show (i + 1) * 2 ≤ cells.length; omega) (by show (i + 1) * 2 + (cells.drop (i * 2)).length ≤ c * 2; rw [hdl]; omega) h1d (pre_shift (by omega)))) (fun v H' h => .inr (.inl rfl)) ?_
        rintro _ H1 ⟨hx1, hb1⟩
        have hu1_ := hu.but hx1 hne
        refine Dr.fin rfl ?_
        refine nrm_and ?_
        refine AW.rs ?_
        refine AL.val rfl (.inl rfl) (HV.mv rfl) ?_
        refine AL.val rfl (.inl rfl) (HV.mv rfl) ?_
        refine AL.val rfl (.inl rfl) (HV.ctL sl67 rfl rfl rfl (by omega) (by omega)) ?_
        refine AL.val rfl (.inl rfl) (HV.mv rfl) ?_
        refine AL.w rfl (.inl rfl) (WV.cp (cs := new) (p := cells.take (i * 2) ++ new ++ cells.drop (i * 2)) sl67 rfl rfl hb1 (by rw [hnl, Nat.min_eq_left (by omega)]) hu1_.al (by show i * 2 ≤ (cells.take ((i + 1) * 2) ++ cells.drop (i * 2)).length; rw [List.length_append, List.length_take]; omega) (by show i * 2 + new.length ≤ c * 2; omega) h2 (pre_put (by omega) (by omega))) ?_
        rintro _ H2 ⟨hx2, hb2⟩
        refine AL.nx ?_
        refine AW.rs ?_
        refine AL.val rfl (.inl rfl) (HV.mv rfl) ?_
        refine AL.val rfl (.inl rfl) (HV.as rfl) ?_
        refine AL.nx ?_
        refine AW.ret ?_
        refine ret_and ?_
        refine post_one rfl rfl ?_ (.inr rfl)
        exact ⟨⟨g, c, rfl, .inl rfl, by omega, hcm, hb2⟩, hx1.trans hx2⟩

set_option maxRecDepth 100000 in
theorem ins_ok1 {A : Option Addr} {n c : Nat} {u : Value} {cells new : List Value} {okx : Nat → Prop} (hv : OwnV W H (fun x => some x = (Value.slice A n c).ownBlock) 73 2 (.slice A n c) n cells) (hu : OwnV W H okx 73 2 u 1 new) (hn : n ≤ 1000000) : ACalls Try.prog W 77 #[.slice A n c, .int .i64 (n : Int), u] H (fun r H' => But (fun b => some b = (Value.slice A n c).ownBlock) H H' ∧ OwnV W H' (fun b => some b = (Value.slice A n c).ownBlock ∨ H.bd ≤ b) 73 2 r (n + 1) (cells ++ new)) := by
  refine ACalls.of (args := [.slice A n c, .int .i64 (n : Int), u]) Try.func77 rfl rfl ?_
  have X0 := Ext.refl H
  obtain ⟨Au, cu, rfl⟩ := hu.isSl
  refine AW.rs ?_
  refine AL.val rfl (.inl rfl) (HV.as rfl) ?_
  refine AL.nx ?_
  refine AW.rs ?_
  refine AL.val rfl (.inl rfl) (HV.mv rfl) ?_
  refine AL.val rfl (.inl rfl) (HV.mv rfl) ?_
  refine AL.val rfl (.inl rfl) (HV.ctL' sl67 rfl rfl (by omega) (by omega)) ?_
  refine AL.nx ?_
  refine AW.rs ?_
  refine AL.val rfl (.inl rfl) (HV.mv rfl) ?_
  refine AL.val rfl (.inl rfl) (HV.lenq Try.underlying67 rfl) ?_
  refine AL.val rfl (.inl rfl) (HV.as rfl) ?_
  refine AL.nx ?_
  refine AW.seq ?_
  refine AW.rs ?_
  refine AL.val rfl (.inl rfl) (HV.mv rfl) ?_
  refine AL.val rfl (.inl rfl) (HV.eqi rfl rfl) ?_
  refine AL.nx ?_
  refine AW.ifd rfl (fun c1 => ?_) (fun c1 => ?_)
  · -- then
    refine AW.rs ?_
    refine AL.val rfl (.inl rfl) (HV.mv rfl) ?_
    refine AL.val rfl (.inl rfl) (HV.as rfl) ?_
    refine AL.nx ?_
    refine AW.ret ?_
    refine ret_and ?_
    refine post_one rfl rfl ?_ (.inr rfl)
    exact absurd c1 (by decide)
  · -- else
    refine AW.skip ?_
    refine nrm_and ?_
    refine AW.rs ?_
    refine AL.val rfl (.inl rfl) (HV.mv rfl) ?_
    refine AL.val rfl (.inl rfl) (HV.lenq Try.underlying67 rfl) ?_
    refine AL.val rfl (.inl rfl) (HV.as rfl) ?_
    refine AL.nx ?_
    refine AW.seq ?_
    refine AW.rs ?_
    refine AL.val rfl (.inl rfl) (HV.mv rfl) ?_
    refine AL.val rfl (.inl rfl) (HV.mv rfl) ?_
    refine AL.val rfl (.inl rfl) (HV.eqi rfl rfl) ?_
    refine AL.nx ?_
    refine AW.ifd rfl (fun c2 => ?_) (fun c2 => ?_)
    · -- then
      refine AW.rs ?_
      refine AL.val rfl (.inl rfl) (HV.mv rfl) ?_
      refine AL.val rfl (.inl rfl) (HV.mv rfl) ?_
      refine AL.w rfl (.inl rfl) (WV.app sl67 rfl rfl hv hu.rd (by omega) (by omega)) ?_
      rintro v1 H1 ⟨hx1, ho1⟩
      refine AL.val rfl (.inl rfl) (HV.as rfl) ?_
      refine AL.nx ?_
      refine AW.ret ?_
      refine ret_and ?_
      refine post_one rfl rfl ?_ (.inr rfl)
      exact ⟨hx1, ho1⟩
    · -- else
      refine AW.skip ?_
      refine nrm_and ?_
      refine AW.seq ?_
      refine AW.rs ?_
      exact absurd rfl c2

theorem insert_ok {v u : Value} {n i : Nat} {cells new : List Value} {okx : Nat → Prop} (hv : OwnV W H (fun x => some x = v.ownBlock) 73 2 v n cells) (hu : OwnV W H okx 73 2 u 1 new) (hoff : ∀ b, okx b → b < H.bd → ¬ some b = v.ownBlock) (hi : i ≤ n) (hn : n ≤ 1000000) :
    ACalls Try.prog W 77 #[v, .int .i64 (i : Int), u] H (fun r H' => But (fun b => some b = v.ownBlock) H H' ∧ OwnV W H' (fun b => some b = v.ownBlock ∨ H.bd ≤ b) 73 2 r (n + 1) (cells.take (i * 2) ++ new ++ cells.drop (i * 2))) := by
  have hcl : cells.length = n * 2 := hv.len
  rcases Nat.eq_or_lt_of_le hi with rfl | hlt
  · obtain ⟨A, c, rfl⟩ := hv.isSl
    have h := ins_ok1 hv hu hn
    rw [List.take_of_length_le (by omega), List.drop_of_length_le (by omega), List.append_nil]
    exact h
  · obtain ⟨hl, h1, hat⟩ := hv
    obtain ⟨hnl, h2, hatu⟩ := hu
    rcases hat with ⟨_, h0⟩ | ⟨g, c, rfl, hg, hA, hnc, hcm⟩
    · omega
    · rcases hatu with ⟨_, h0⟩ | ⟨bu, cu, rfl, hgu, hAu, hcu, hcum⟩
      · omega
      · have hne : bu ≠ g := fun e => hoff bu hgu hAu.lt (by rw [e]; rfl)
        refine (ins_ok2 hA hAu hne hcl (by omega) h1 h2 hlt hnc hcm hn).mono fun r H' ⟨⟨g', c', hr, hg', h3, h4, h5⟩, h6⟩ => ?_
        have eb : (fun b => some b = (Value.slice (some ⟨g, 0, none⟩) n c).ownBlock) = fun b => b = g := by funext b; simp [Value.ownBlock]
        refine ⟨by rw [eb]; exact h6, ?_⟩
        subst hr
        refine ⟨?_, ?_, .inr ⟨g', c', rfl, ?_, h5, h3, h4⟩⟩
        · rw [List.length_append, List.length_append, List.length_take, List.length_drop]; omega
        · intro x hx
          rcases List.mem_append.1 hx with hx | hx
          · rcases List.mem_append.1 hx with hx | hx
            · exact h1 x (List.mem_of_mem_take hx)
            · exact h2 x hx
          · exact h1 x (List.mem_of_mem_drop hx)
        · rcases hg' with rfl | hg'
          · exact .inl rfl
          · exact .inr hg'

set_option maxRecDepth 100000 in
theorem sc_ok {va vb v : Value} {l m g : List Int} {ok ok2 ok3 : Nat → Prop} (hr : RdK kI W H ok va l) (hr2 : RdK kI W H ok2 vb m) (hr3 : RdK kI W H ok3 v g) : ACalls Try.prog W 76 #[.agg #[va, vb], v] H (fun r H' => r = .int .i64 (lexI l g) ∧ Ext H H') := by
  refine ACalls.of (args := [.agg #[va, vb], v]) Try.func76 rfl rfl ?_
  have X0 := Ext.refl H
  have hm1 := hr.max
  have hm2 := hr2.max
  have hm3 := hr3.max
  refine AW.rs ?_
  refine AL.w rfl (.inl rfl) (WV.bx rfl rfl) ?_
  rintro _ H5 ⟨b4, rfl, hx6, hn7, hb8⟩
  have o9 := Nat.le_trans X0.bd hn7
  have X10 := Ext.trans X0 hx6
  have X11 := Ext.refl H5
  refine AL.val rfl (.inl rfl) (HV.as rfl) ?_
  refine AL.nx ?_
  refine AW.rs ?_
  refine AL.val rfl (.inl rfl) (HV.fa fl73_0 rfl) ?_
  refine AL.val rfl (.inl rfl) (HV.ld rfl va22 (at_cell hb8 rfl)) ?_
  refine AL.val rfl (.inl rfl) (HV.mv rfl) ?_
  refine AL.w rfl (.inl rfl) (WV.call fn71 rfl (lexI_ok (hr.ext X10) (hr3.ext X10))) ?_
  rintro _ H12 ⟨rfl, hx13⟩
  have X14 := Ext.trans X10 hx13
  have X15 := Ext.trans X11 hx13
  have hb16 := hb8.ext hx13
  refine AL.val rfl (.inl rfl) (HV.as rfl) ?_
  refine AL.nx ?_
  refine AW.ret ?_
  refine post_one rfl rfl ?_ (.inr rfl)
  exact ⟨rfl, X14⟩

set_option maxRecDepth 100000 in
theorem bs_ok {v : Value} {l : List (List Int × List Int)} {ok : Nat → Prop} (hr : RdK (kP (kR kI) (kR kI)) W H ok v l) {vg : Value} {g : List Int} {ok2 : Nat → Prop} (hr2 : RdK kI W H ok2 vg g) (hs : SrtV l) (hl : l.length ≤ 1000000) : ACalls Try.prog W 75 #[v, vg, (.func (.func 76) #[] #[])] H (fun r H' => r = .tuple #[.int .i64 (posV l g : Int), .bool (decide (hasV l g))] ∧ Ext H H') := by
  refine ACalls.of (args := [v, vg, (.func (.func 76) #[] #[])]) Try.func75 rfl rfl ?_
  have X0 := Ext.refl H
  have hm1 := hr.max
  have hm2 := hr2.max
  refine AW.rs ?_
  refine AL.val rfl (.inl rfl) (HV.as rfl) ?_
  refine AL.val rfl (.inl rfl) (HV.as rfl) ?_
  refine AL.nx ?_
  refine AW.rs ?_
  refine AL.val rfl (.inl rfl) (HV.mv rfl) ?_
  refine AL.val rfl (.inl rfl) (HV.len Try.underlying67 rfl hr.isSl) ?_
  refine AL.val rfl (.inl rfl) (HV.as rfl) ?_
  refine AL.nx ?_
  refine AW.rs ?_
  refine AL.val rfl (.inl rfl) (HV.mv rfl) ?_
  refine AL.val rfl (.inl rfl) (HV.as rfl) ?_
  refine AL.val rfl (.inl rfl) (HV.as rfl) ?_
  refine AL.nx ?_
  refine AW.seq ?_
  refine AW.block ?_
  refine AW.loop (σ := Nat × Nat) (fun ⟨a, b⟩ => [(0, v), (1, vg), (2, (.func (.func 76) #[] #[])), (6, .int .i64 0), (7, .bool false), (8, .int .i64 (l.length : Int)), (9, .int .i64 (a : Int)), (10, .int .i64 (b : Int))]) (fun ⟨a, b⟩ H' => Ext H H' ∧ a ≤ b ∧ b ≤ l.length ∧ (∀ k, k < a → lexI (l.getD k ([], [])).1 g < 0) ∧ (∀ k, b ≤ k → k < l.length → ¬ lexI (l.getD k ([], [])).1 g < 0) ∧ True) (fun ⟨a, b⟩ => b - a) (0, l.length) ⟨X0, Nat.zero_le _, Nat.le_refl _, fun k hk => absurd hk (Nat.not_lt_zero _), fun k h1 h2 => by omega, trivial⟩ ⟨rfl, rfl, rfl, rfl, rfl, rfl, rfl, rfl, trivial⟩ ?_
  rintro ⟨a, b⟩ H3 ⟨X4, hab, hbl, hlt, hge, _⟩
  refine AW.seq ?_
  refine AW.rs ?_
  refine AL.val rfl (.inl rfl) (HV.mv rfl) ?_
  refine AL.val rfl (.inl rfl) (HV.mv rfl) ?_
  refine AL.val rfl (.inl rfl) (HV.lti rfl rfl) ?_
  refine AL.nx ?_
  refine AW.ifd rfl (fun c5 => ?_) (fun c5 => ?_)
  · -- then
    refine AW.skip ?_
    refine nrm_and ?_
    refine AW.block ?_
    refine AW.rs ?_
    refine AL.val rfl (.inl rfl) (HV.mv rfl) ?_
    refine AL.val rfl (.inl rfl) (HV.mv rfl) ?_
    refine AL.val rfl (.inl rfl) (HV.add rfl rfl (by omega)) ?_
    refine AL.val rfl (.inl rfl) (HV.cve (by rw [Try.underlying3]; rfl) Try.underlying69 rfl (u64_id (by omega))) ?_
    refine AL.val rfl (.inl rfl) (HV.shr rfl rfl (by omega)) ?_
    refine AL.val rfl (.inl rfl) (HV.cve (by rw [Try.underlying69]; rfl) Try.underlying3 rfl (mid_eq (by omega))) ?_
    refine AL.val rfl (.inl rfl) (HV.as rfl) ?_
    refine AL.nx ?_
    refine AW.rs ?_
    refine AL.val rfl (.inl rfl) (HV.mv rfl) ?_
    refine AL.val rfl (.inl rfl) (HV.mv rfl) ?_
    refine AL.val rfl (.inl rfl) (HV.mv rfl) ?_
    obtain ⟨p6, z7, cs8, hz9, hK10, hC11, hP12⟩ := RdK.ix (q := (((a + b) / 2 : Nat) : Int)) hr sl67 (by omega) (by omega)
    obtain ⟨cs13, cs14, rfl, hK15, hK16⟩ := hK10
    obtain ⟨v17, rfl, hr18⟩ := hK15
    have hm19 := hr18.max
    obtain ⟨v20, rfl, hr21⟩ := hK16
    have hm22 := hr21.max
    refine AL.val rfl (.inl rfl) (hP12 rfl rfl) ?_
    refine AL.val rfl (.inl rfl) (HV.lda (cs := [v17, v20]) rfl va73 (hC11.ext X4)) ?_
    refine AL.val rfl (.inl rfl) (HV.mv rfl) ?_
    refine AL.w rfl (.inl rfl) (WV.callv fn76 rfl rfl (sc_ok (hr18.ext X4) (hr21.ext X4) (hr2.ext X4))) ?_
    rintro _ H23 ⟨rfl, hx24⟩
    have X25 := Ext.trans X4 hx24
    refine AL.val rfl (.inl rfl) (HV.lti rfl rfl) ?_
    refine AL.nx ?_
    refine AW.ifd rfl (fun c26 => ?_) (fun c26 => ?_)
    · -- then
      refine AW.reg ?_
      refine AL.val rfl (.inl rfl) (HV.mv rfl) ?_
      refine AL.val rfl (.inl rfl) (HV.add rfl rfl (by omega)) ?_
      refine AL.val rfl (.inl rfl) (HV.as rfl) ?_
      refine AL.nil ?_
      refine nrm_blk (nrm_and ?_)
      exact ⟨((a + b) / 2 + 1, b), ⟨X25, by omega, by omega, fun k hk => (Nat.lt_or_ge k ((a + b) / 2)).elim (fun h2 => lexI_trans (srtV_lt hs h2 (by omega)) (show lexI (l.getD ((a + b) / 2) ([], [])).1 g < 0 from by rw [gd hz9 rfl]; exact c26)) (fun h2 => by rw [show k = (a + b) / 2 by omega]; exact (show lexI (l.getD ((a + b) / 2) ([], [])).1 g < 0 from by rw [gd hz9 rfl]; exact c26)), hge, trivial⟩, by first | omega | (dsimp only; omega), ⟨rfl, rfl, rfl, rfl, rfl, rfl, rfl, rfl, trivial⟩⟩
    · -- else
      refine AW.reg ?_
      refine AL.val rfl (.inl rfl) (HV.mv rfl) ?_
      refine AL.val rfl (.inl rfl) (HV.as rfl) ?_
      refine AL.nil ?_
      refine nrm_blk (nrm_and ?_)
      exact ⟨(a, (a + b) / 2), ⟨X25, by omega, by omega, hlt, fun k hk1 hk2 q => (Nat.eq_or_lt_of_le hk1).elim (fun e => by subst e; exact (show ¬ lexI (l.getD ((a + b) / 2) ([], [])).1 g < 0 from by rw [gd hz9 rfl]; exact c26) q) (fun h2 => (show ¬ lexI (l.getD ((a + b) / 2) ([], [])).1 g < 0 from by rw [gd hz9 rfl]; exact c26) (lexI_trans (srtV_lt hs h2 hk2) q)), trivial⟩, by first | omega | (dsimp only; omega), ⟨rfl, rfl, rfl, rfl, rfl, rfl, rfl, rfl, trivial⟩⟩
  · -- else
    refine AW.exit ?_
    refine ex_and (ex_and (ex_blk ?_))
    refine nrm_and ?_
    refine AW.rs ?_
    refine AL.val rfl (.inl rfl) (HV.mv rfl) ?_
    refine AL.val rfl (.inl rfl) (HV.mv rfl) ?_
    refine AL.val rfl (.inl rfl) (HV.mv rfl) ?_
    refine AL.val rfl (.inl rfl) (HV.lti rfl rfl) ?_
    refine AL.val rfl (.inl rfl) (HV.mv rfl) ?_
    by_cases c27 : (a : Int) < (l.length : Int)
    · -- true
      have c27_ : decide ((a : Int) < (l.length : Int)) = true := decide_eq_true c27
      rw [c27_]
      refine AL.val rfl (.inr ⟨_, _, _, rfl, rfl, rfl⟩) (HV.mv rfl) ?_
      refine AL.val rfl (.inr ⟨_, _, _, rfl, rfl, rfl⟩) (HV.mv rfl) ?_
      refine AL.val rfl (.inr ⟨_, _, _, rfl, rfl, rfl⟩) (HV.mv rfl) ?_
      obtain ⟨p28, z29, cs30, hz31, hK32, hC33, hP34⟩ := RdK.ix (q := (a : Int)) hr sl67 (by omega) (by omega)
      obtain ⟨cs35, cs36, rfl, hK37, hK38⟩ := hK32
      obtain ⟨v39, rfl, hr40⟩ := hK37
      have hm41 := hr40.max
      obtain ⟨v42, rfl, hr43⟩ := hK38
      have hm44 := hr43.max
      refine AL.val rfl (.inr ⟨_, _, _, rfl, rfl, rfl⟩) (hP34 rfl rfl) ?_
      refine AL.val rfl (.inr ⟨_, _, _, rfl, rfl, rfl⟩) (HV.lda (cs := [v39, v42]) rfl va73 (hC33.ext X4)) ?_
      refine AL.val rfl (.inr ⟨_, _, _, rfl, rfl, rfl⟩) (HV.mv rfl) ?_
      refine AL.w rfl (.inr ⟨_, _, _, rfl, rfl, rfl⟩) (WV.callv fn76 rfl rfl (sc_ok (hr40.ext X4) (hr43.ext X4) (hr2.ext X4))) ?_
      rintro _ H45 ⟨rfl, hx46⟩
      have X47 := Ext.trans X4 hx46
      refine AL.val rfl (.inr ⟨_, _, _, rfl, rfl, rfl⟩) (HV.eqi rfl rfl) ?_
      refine AL.val rfl (.inl rfl) (HV.pickT rfl rfl) ?_
      refine AL.val rfl (.inl rfl) (HV.as rfl) ?_
      refine AL.val rfl (.inl rfl) (HV.as rfl) ?_
      refine AL.nx ?_
      refine AW.ret ?_
      refine post_two rfl rfl rfl ?_ (.inr rfl)
      have hp : posV l g = a := posV_of (by omega) hlt (fun h => hge a (by omega) h); exact ⟨by rw [hp]; exact congrArg (fun z => Value.tuple #[.int .i64 (a : Int), .bool z]) (decide_eq_decide.2 ⟨fun h => hasV_iff.2 ⟨by omega, by rw [hp, gd hz31 rfl]; exact lexI_eq h⟩, fun h => by have q := (hasV_iff.1 h).2; rw [hp, gd hz31 rfl] at q; rw [q]; exact lexI_self g⟩), X47⟩
    · -- false
      have c27_ : decide ((a : Int) < (l.length : Int)) = false := decide_eq_false c27
      rw [c27_]
      refine AL.off rfl rfl (by decide) rfl ?_
      refine AL.off rfl rfl (by decide) rfl ?_
      refine AL.off rfl rfl (by decide) rfl ?_
      refine AL.off rfl rfl (by decide) rfl ?_
      refine AL.off rfl rfl (by decide) rfl ?_
      refine AL.off rfl rfl (by decide) rfl ?_
      refine AL.off rfl rfl (by decide) rfl ?_
      refine AL.off rfl rfl (by decide) rfl ?_
      refine AL.val rfl (.inl rfl) (HV.pickF rfl rfl) ?_
      refine AL.val rfl (.inl rfl) (HV.as rfl) ?_
      refine AL.val rfl (.inl rfl) (HV.as rfl) ?_
      refine AL.nx ?_
      refine AW.ret ?_
      refine post_two rfl rfl rfl ?_ (.inr rfl)
      have hp : posV l g = a := posV_of (by omega) hlt (fun h => hge a (by omega) h); exact ⟨by rw [hp]; exact congrArg (fun z => Value.tuple #[.int .i64 (a : Int), .bool z]) (decide_eq_false (fun h => by have q := (hasV_iff.1 h).1; omega)).symm, X4⟩

set_option maxRecDepth 100000 in
theorem sights_ok {vs v : Value} {s : List Int} {l : List (Int × List Int)} {oks ok : Nat → Prop} (n : Int) (hs : RdK kI W H oks vs s) (hr : RdK (kP kI (kR kI)) W H ok v l) {g : List Int} (q : Nat) (hq : q < 128) (hg : grpL q 7 = g) (hok : okT n s l) (hin : ∀ h ∈ g, 0 ≤ h ∧ h < (s.length : Int)) : ACalls Try.prog W 48 #[.agg #[.int .i64 n, vs, v], .int .u64 (q : Int)] H (fun r H' => Ext H H' ∧ OwnD (kX (kO 2 kI) (kO 2 kI)) 73 W H' (fun b => H.bd ≤ b) r (seeV n g l l.length)) := by
  refine ACalls.of (args := [.agg #[.int .i64 n, vs, v], .int .u64 (q : Int)]) Try.func48 rfl rfl ?_
  have X0 := Ext.refl H
  have hm1 := hs.max
  have hm2 := hr.max
  have hn := hok.1.1
  have hl7 := hok.1.2.2.1
  have hgn : g.length ≤ 7 := by rw [← hg]; exact grpL_len q 7
  refine AW.rs ?_
  refine AL.w rfl (.inl rfl) (WV.bx rfl rfl) ?_
  rintro _ H4 ⟨b3, rfl, hx5, hn6, hb7⟩
  have o8 := Nat.le_trans X0.bd hn6
  have X9 := Ext.trans X0 hx5
  have X10 := Ext.refl H4
  refine AL.val rfl (.inl rfl) (HV.as rfl) ?_
  refine AL.nx ?_
  refine AW.rs ?_
  have y11 := hb7.lt
  have o12 := X9.bd
  have o13 := X10.bd
  refine AL.w rfl (.inl rfl) (WV.bsK (K := (kX (kO 2 kI) (kO 2 kI))) (l := ([] : List (List Int × List Int))) (css := []) sl67 rfl rfl (by first | rfl | simp [Instr.fill]) rfl segs_nil) ?_
  rintro v14 H15 ⟨hx16, ho17⟩
  have X19 := Ext.trans X9 hx16
  have X20 := Ext.trans X10 hx16
  have hb21 := hb7.ext hx16
  have ho18 := ho17.deep0
  refine AL.val rfl (.inl rfl) (HV.as rfl) ?_
  refine AL.nx ?_
  refine AW.rs ?_
  refine AL.val rfl (.inl rfl) (HV.mv rfl) ?_
  have X23 := Ext.refl H15
  have y24 := hb21.lt
  have o25 := X19.bd
  have o26 := X20.bd
  have o27 := X23.bd
  have a28 := ho18.ltb
  have ho29 := ho18.okk (ok' := fun b => H4.bd ≤ b ∧ b < H15.bd) (fun b hb hlt => ⟨hb, hlt⟩)
  refine AL.w rfl (.inl rfl) (WV.call fn74 rfl (group_ok q hq)) ?_
  rintro v30 H31 ⟨hx32, ho33⟩
  have X37 := Ext.trans X19 hx32
  have X38 := Ext.trans X20 hx32
  have X39 := Ext.trans X23 hx32
  have ho40 := ho29.ext hx32
  have hb41 := hb21.ext hx32
  rw [hg] at ho33
  have ho34 := ho33.narrow (ok' := fun b => H15.bd ≤ b ∧ some b = v30.ownBlock) kI_flat (fun b q => ⟨(ho33.blk b q).1, q⟩)
  have ho35 := ho40.okk (ok' := fun b => (H4.bd ≤ b ∧ some b ≠ v30.ownBlock)) (fun b hb _ => ⟨hb.1, fun e => by have h1 := hb.2; have h2 := (ho33.blk b e).1; omega⟩)
  refine AL.val rfl (.inl rfl) (HV.as rfl) ?_
  refine AL.nx ?_
  refine AW.seq ?_
  refine AW.rs ?_
  refine AL.val rfl (.inl rfl) (HV.fa fl30_2 rfl) ?_
  refine AL.val rfl (.inl rfl) (HV.ld rfl va28 (at_cell_add hb41 rfl)) ?_
  refine AL.val rfl (.inl rfl) (HV.len Try.underlying28 rfl hr.isSl) ?_
  refine AL.val rfl (.inl rfl) (HV.mv rfl) ?_
  refine AL.nx ?_
  refine AW.block ?_
  refine AW.loop (σ := Nat × Value) (fun ⟨i, vv⟩ => [(2, .pointer (some ⟨b3, 0, none⟩)), (4, (.slice none 0 0)), (6, v30), (18, v), (19, .int .i64 (l.length : Int)), (5, vv), (20, .int .i64 (i : Int))]) (fun ⟨i, vv⟩ H' => Ext H H' ∧ Ext H4 H' ∧ At W H' b3 ⟨30, [.int .i64 n, vs, v], 3⟩ ∧ i ≤ l.length ∧ OwnD (kX (kO 2 kI) (kO 2 kI)) 73 W H' (fun b => (H4.bd ≤ b ∧ some b ≠ v30.ownBlock)) vv (seeV n g l i) ∧ OwnK kI 2 W H' (fun b => H15.bd ≤ b ∧ some b = v30.ownBlock) v30 g ∧ True) (fun ⟨i, vv⟩ => l.length - i) (0, v14) ⟨X37, X38, hb41, Nat.zero_le _, ho35, ho34, trivial⟩ ⟨rfl, rfl, rfl, rfl, rfl, rfl, rfl, trivial⟩ ?_
  rintro ⟨i, vv⟩ H43 ⟨X44, X45, hb46, hi, hoD, hoW, _⟩
  have hse := seeV_ok (n := n) (g := g) (l := l) (fun i hi => (hok.1.2.2.2.2 i hi).1) i hi
  have hsl := hse.len
  refine AW.rs ?_
  refine AL.val rfl (.inl rfl) (HV.lti rfl rfl) ?_
  refine AL.nx ?_
  refine AW.seq ?_
  refine AW.ifd rfl (fun c47 => ?_) (fun c47 => ?_)
  · -- then
    refine AW.skip ?_
    refine nrm_and ?_
    refine AW.seq ?_
    refine AW.block ?_
    refine AW.rs ?_
    obtain ⟨p48, z49, cs50, hz51, hK52, hC53, hP54⟩ := RdK.ix (q := (i : Int)) hr sl28 (by omega) (by omega)
    obtain ⟨cs55, cs56, rfl, hK57, hK58⟩ := hK52
    obtain rfl : cs55 = [.int .i64 z49.1] := hK57
    obtain ⟨v59, rfl, hr60⟩ := hK58
    have hm61 := hr60.max
    refine AL.val rfl (.inl rfl) (hP54 rfl rfl) ?_
    refine AL.val rfl (.inl rfl) (HV.lda (cs := [.int .i64 z49.1, v59]) rfl va54 (hC53.ext X44)) ?_
    have ho62 := hoD.okk (ok' := fun b => (H4.bd ≤ b ∧ some b ≠ v30.ownBlock) ∧ b < H43.bd) (fun b hb hlt => ⟨hb, hlt⟩)
    have gb63 := hoW.ltb
    have X64 := Ext.refl H43
    have q65 := X45.bd
    have a71 := hoW.ltb
    refine AL.w rfl (.inl rfl) (WV.al ze54 rfl) ?_
    rintro _ H67 ⟨b66, rfl, hx68, hn69, hb70⟩
    have o72 := Nat.le_trans X44.bd hn69
    have o73 := Nat.le_trans X45.bd hn69
    have o74 := Nat.le_trans X64.bd hn69
    have a75 : ∀ b', some b' = v30.ownBlock → b' = b66 → False := fun b' h1 h2 => by have x1 := a71 b' h1; have x2 := hn69; omega
    have ne76 : b3 ≠ b66 := by have := hb46.lt; omega
    have X77 := Ext.trans X44 hx68
    have X78 := Ext.trans X45 hx68
    have X79 := Ext.trans X64 hx68
    have ho80 := ho62.ext hx68
    have ho81 := hoW.ext hx68
    have hb82 := hb46.ext hx68
    have X83 := Ext.refl H67
    refine AL.w0 (.inl rfl) (WV.st rfl rfl va54 rfl hb70 (Nat.le_of_ble_eq_true rfl) (one_cons rfl (one_cons (sl_one1 (hr60.ext X77).isSl) one_nil))) ?_
    rintro _ H84 ⟨hx85, hb86⟩
    have X87 := Ext.thru X77 hx85 (fun z_ hz_ => by rw [hz_]; exact o72)
    have X88 := Ext.thru X78 hx85 (fun z_ hz_ => by rw [hz_]; exact o73)
    have X89 := Ext.thru X79 hx85 (fun z_ hz_ => by rw [hz_]; exact o74)
    have ho91 := ho80.but hx85 (fun b hb _ e => by have hb' : (H4.bd ≤ b ∧ some b ≠ v30.ownBlock) ∧ b < H43.bd := hb; have e' : b = b66 := e; omega) (fun z_ hz_ => by rw [hz_]; exact hb70.w)
    have ho92 := ho81.but hx85 (fun b hb _ e => a75 b hb.2 e) (fun z_ hz_ => by rw [hz_]; exact hb70.w)
    have hb93 := hb82.but hx85 ne76
    have hb94 : At W H84 b66 ⟨54, [.int .i64 z49.1, v59], 2⟩ := hb86
    refine AL.nx ?_
    refine AW.rs ?_
    have hrow := hok.1.2.2.2.2 i (by omega)
    rw [(gd hz51 rfl : l.getD i (0, []) = z49)] at hrow
    have hrl := hrow.2.1
    have X95 := Ext.refl H84
    have y96 := hb93.lt
    have y97 := hb94.lt
    have o98 := X87.bd
    have o99 := X88.bd
    have o100 := X89.bd
    have o101 := X95.bd
    have a102 := ho91.ltb
    have a103 := ho92.ltb
    refine AL.w rfl (.inl rfl) (WV.bsK (K := kI) (l := ([] : List Int)) (css := []) sl22 rfl rfl (by first | rfl | (simp [Instr.fill, Value.cells, kI, kB, kU, kS, Kd.sc]; done) | (simp [Instr.fill, Value.cells, kI, kB, kU, kS, Kd.sc, rng1, rng2, rng3, rng4, kP])) rfl segs_nil) ?_
    rintro v104 H105 ⟨hx106, ho107⟩
    have X108 := Ext.trans X87 hx106
    have X109 := Ext.trans X88 hx106
    have X110 := Ext.trans X89 hx106
    have X111 := Ext.trans X95 hx106
    have ho112 := ho91.ext hx106
    have ho113 := ho92.ext hx106
    have hb114 := hb93.ext hx106
    have hb115 := hb94.ext hx106
    refine AL.val rfl (.inl rfl) (HV.as rfl) ?_
    refine AL.nx ?_
    refine AW.seq ?_
    refine AW.rs ?_
    refine AL.val rfl (.inl rfl) (HV.mv rfl) ?_
    refine AL.val rfl (.inl rfl) (HV.len Try.underlying22 rfl ho113.rd.isSl) ?_
    refine AL.val rfl (.inl rfl) (HV.mv rfl) ?_
    refine AL.nx ?_
    refine AW.block ?_
    refine AW.loop (σ := Nat × Value × List Int) (fun ⟨j, vw, gg⟩ => [(2, .pointer (some ⟨b3, 0, none⟩)), (4, (.slice none 0 0)), (5, vv), (6, v30), (8, .pointer (some ⟨b66, 0, none⟩)), (18, v), (19, .int .i64 (l.length : Int)), (20, .int .i64 (i : Int)), (21, .bool (decide ((i : Int) < (l.length : Int)))), (22, .pointer (some p48)), (23, .agg #[.int .i64 z49.1, v59]), (24, v104), (25, v30), (26, .int .i64 (g.length : Int)), (9, vw), (27, .int .i64 (j : Int))]) (fun ⟨j, vw, gg⟩ H' => Ext H H' ∧ Ext H4 H' ∧ Ext H43 H' ∧ Ext H84 H' ∧ At W H' b3 ⟨30, [.int .i64 n, vs, v], 3⟩ ∧ At W H' b66 ⟨54, [.int .i64 z49.1, v59], 2⟩ ∧ j ≤ g.length ∧ gg = viewL (g.take j) z49.2 ∧ OwnD (kX (kO 2 kI) (kO 2 kI)) 73 W H' (fun b => (H4.bd ≤ b ∧ some b ≠ v30.ownBlock) ∧ b < H43.bd) vv (seeV n g l i) ∧ OwnK kI 2 W H' (fun b => H15.bd ≤ b ∧ some b = v30.ownBlock) v30 g ∧ OwnK kI 2 W H' (fun b => H84.bd ≤ b) vw gg ∧ True) (fun ⟨j, vw, gg⟩ => g.length - j) (0, v104, []) ⟨X108, X109, X110, X111, hb114, hb115, Nat.zero_le _, rfl, ho112, ho113, ho107, trivial⟩ ⟨rfl, rfl, rfl, rfl, rfl, rfl, rfl, rfl, rfl, rfl, rfl, rfl, rfl, rfl, rfl, rfl, trivial⟩ ?_
    rintro ⟨j, vw, gg⟩ H117 ⟨X118, X119, X120, X121, hb122, hb123, hj, hgg, hoD2, hoW2, hoV, _⟩
    have hgl : gg.length = j := by rw [hgg, viewL_len, List.length_take]; omega
    refine AW.rs ?_
    refine AL.val rfl (.inl rfl) (HV.lti rfl rfl) ?_
    refine AL.nx ?_
    refine AW.seq ?_
    refine AW.ifd rfl (fun c124 => ?_) (fun c124 => ?_)
    · -- then
      refine AW.skip ?_
      refine nrm_and ?_
      refine AW.seq ?_
      refine AW.block ?_
      refine AW.rs ?_
      obtain ⟨g125, z126, cs127, hz128, hK129, hC130, hg131, hP132⟩ := OwnK.ix (q := (j : Int)) hoW2 sl22 (by omega) (by omega)
      have X133 := Ext.refl H117
      obtain rfl : cs127 = [.int .i64 z126] := hK129
      refine AL.val rfl (.inl rfl) (hP132 rfl rfl) ?_
      refine AL.val rfl (.inl rfl) (HV.ld rfl va2 (cells_first hC130 rfl)) ?_
      refine AL.val rfl (.inl rfl) (HV.as rfl) ?_
      refine AL.nx ?_
      refine AW.reg ?_
      refine AL.val rfl (.inl rfl) (HV.mv rfl) ?_
      refine AL.val rfl (.inl rfl) (HV.fa fl54_1 rfl) ?_
      refine AL.val rfl (.inl rfl) (HV.ld rfl va22 (at_cell_add hb123 rfl)) ?_
      refine AL.val rfl (.inl rfl) (HV.mv rfl) ?_
      obtain ⟨p134, z135, cs136, hz137, hK138, hC139, hP140⟩ := RdK.ix (q := z126) hr60 sl22 (by have := hin _ (List.mem_of_getElem? hz128); omega) (by have := hin _ (List.mem_of_getElem? hz128); omega)
      obtain rfl : cs136 = [.int .i64 z135] := hK138
      refine AL.val rfl (.inl rfl) (hP140 rfl rfl) ?_
      refine AL.val rfl (.inl rfl) (HV.ld rfl va2 (cells_first (hC139.ext X118) rfl)) ?_
      have y141 := hb122.lt
      have y142 := hb123.lt
      have o143 := X118.bd
      have o144 := X119.bd
      have o145 := X120.bd
      have o146 := X121.bd
      have o147 := X133.bd
      have a148 := hoD2.ltb
      have a149 := hoW2.ltb
      have a150 := hoV.ltb
      refine AL.w rfl (.inl rfl) (WV.bsK (K := kI) (l := ([z135] : List Int)) (css := [[.int .i64 z135]]) sl22 rfl rfl (by first | rfl | (simp [Instr.fill, Value.cells, kI, kB, kU, kS, Kd.sc]; done) | (simp [Instr.fill, Value.cells, kI, kB, kU, kS, Kd.sc, rng1, rng2, rng3, rng4, kP])) rfl (segs_cons rfl segs_nil)) ?_
      rintro v151 H152 ⟨hx153, ho154⟩
      have X155 := Ext.trans X118 hx153
      have X156 := Ext.trans X119 hx153
      have X157 := Ext.trans X120 hx153
      have X158 := Ext.trans X121 hx153
      have X159 := Ext.trans X133 hx153
      have ho160 := hoD2.ext hx153
      have ho161 := hoW2.ext hx153
      have ho162 := hoV.ext hx153
      have hb163 := hb122.ext hx153
      have hb164 := hb123.ext hx153
      have X166 := Ext.refl H152
      refine AL.w rfl (.inl rfl) (WV.apk sl22 rfl rfl ho162 ho154.rd (by rw [List.length_singleton]; omega) (by rw [List.length_singleton]; omega) (fun b hb _ e => Nat.lt_irrefl _ (Nat.lt_of_lt_of_le (a150 b e) hb))) ?_
      rintro v167 H168 ⟨hx169, ho170, hb171⟩
      have ho172 := ho170.narrow (ok' := fun b => H84.bd ≤ b) kI_flat (fun b q => (hb171 b q).elim (fun e => (ho162.blk b e).1) (fun e => Nat.le_trans X158.bd e))
      have X173 := Ext.thru X155 hx169 (fun b hb => Nat.le_trans o98 (ho162.blk b hb).1)
      have X174 := Ext.thru X156 hx169 (fun b hb => Nat.le_trans o99 (ho162.blk b hb).1)
      have X175 := Ext.thru X157 hx169 (fun b hb => Nat.le_trans o100 (ho162.blk b hb).1)
      have X176 := Ext.thru X158 hx169 (fun b hb => Nat.le_trans o101 (ho162.blk b hb).1)
      have ho179 := ho160.but hx169 (fun b hb _ e => by have h1 : (H4.bd ≤ b ∧ some b ≠ v30.ownBlock) ∧ b < H43.bd := hb; have h2 : H84.bd ≤ b := (ho162.blk b e).1; omega) (fun b hb => (ho162.blk b hb).2.2)
      have ho180 := ho161.but hx169 (fun b hb _ e => by have h1 := a103 b hb.2; have h2 : H84.bd ≤ b := (ho162.blk b e).1; omega) (fun b hb => (ho162.blk b hb).2.2)
      have hb182 := hb163.but hx169 (fun e => by have q : H84.bd ≤ _ := (ho162.blk _ e).1; omega)
      have hb183 := hb164.but hx169 (fun e => by have q : H84.bd ≤ _ := (ho162.blk _ e).1; omega)
      refine AL.val rfl (.inl rfl) (HV.as rfl) ?_
      refine AL.nil ?_
      refine nrm_blk (nrm_and ?_)
      refine AW.reg ?_
      refine AL.val rfl (.inl rfl) (HV.add rfl rfl (by omega)) ?_
      refine AL.val rfl (.inl rfl) (HV.mv rfl) ?_
      refine AL.nil ?_
      refine nrm_and ?_
      exact ⟨(j + 1, v167, (gg ++ (([z135] : List Int) : List Int))), ⟨X173, X174, X175, X176, hb182, hb183, by omega, by rw [viewL_snoc (getq hz128 rfl), hgg]; congr 2; exact (gd hz137 (by have := hin _ (List.mem_of_getElem? hz128); omega)).symm, ho179, ho180, ho172, trivial⟩, by first | omega | (dsimp only; omega), ⟨rfl, rfl, rfl, rfl, rfl, rfl, rfl, rfl, rfl, rfl, rfl, rfl, rfl, rfl, rfl, rfl, trivial⟩⟩
    · -- else
      refine AW.exit ?_
      refine ex_and (ex_and (ex_blk ?_))
      refine nrm_and ?_
      refine AW.rs ?_
      refine AL.val rfl (.inl rfl) (HV.mv rfl) ?_
      refine AL.val rfl (.inl rfl) (HV.mv rfl) ?_
      refine AL.w rfl (.inl rfl) (WV.call fn75 rfl (bs_ok (hoD2.rd.le (le_X (le_OR (Le.refl _)) (le_OR (Le.refl _)))) hoV.rd hse.srt (by omega))) ?_
      rintro _ H184 ⟨rfl, hx185⟩
      have X186 := Ext.trans X118 hx185
      have X187 := Ext.trans X119 hx185
      have X188 := Ext.trans X120 hx185
      have X189 := Ext.trans X121 hx185
      have ho190 := hoD2.ext hx185
      have ho191 := hoW2.ext hx185
      have ho192 := hoV.ext hx185
      have hb193 := hb122.ext hx185
      have hb194 := hb123.ext hx185
      refine AL.val rfl (.inl rfl) (HV.mv rfl) ?_
      refine AL.val rfl (.inl rfl) (HV.ex rfl rfl) ?_
      refine AL.val rfl (.inl rfl) (HV.ex rfl rfl) ?_
      refine AL.val rfl (.inl rfl) (HV.as rfl) ?_
      refine AL.val rfl (.inl rfl) (HV.as rfl) ?_
      refine AL.nx ?_
      refine AW.seq ?_
      refine AW.rs ?_
      refine AL.val rfl (.inl rfl) (HV.mv rfl) ?_
      refine AL.val rfl (.inl rfl) (HV.not rfl) ?_
      refine AL.nx ?_
      refine AW.ifn rfl (fun c195 => ?_) (fun c195 => ?_)
      · -- then
        refine AW.reg ?_
        refine AL.val rfl (.inl rfl) (HV.mv rfl) ?_
        refine AL.val rfl (.inl rfl) (HV.mv rfl) ?_
        refine AL.val rfl (.inl rfl) (HV.mv rfl) ?_
        refine AL.val rfl (.inl rfl) (HV.fa fl30_0 rfl) ?_
        refine AL.val rfl (.inl rfl) (HV.ld rfl va2 (at_cell hb193 rfl)) ?_
        have X196 := Ext.refl H184
        have y197 := hb193.lt
        have y198 := hb194.lt
        have o199 := X186.bd
        have o200 := X187.bd
        have o201 := X188.bd
        have o202 := X189.bd
        have o203 := X196.bd
        have a204 := ho190.ltb
        have a205 := ho191.ltb
        have a206 := ho192.ltb
        refine AL.w rfl (.inl rfl) (WV.mkK (K := kI) (0 : Int) (fun _ _ _ => rfl) sl22 rfl rfl rfl (by omega) (by omega) (by omega)) ?_
        rintro v207 H208 ⟨hx209, ho210⟩
        have X211 := Ext.trans X186 hx209
        have X212 := Ext.trans X187 hx209
        have X213 := Ext.trans X188 hx209
        have X214 := Ext.trans X189 hx209
        have X215 := Ext.trans X196 hx209
        have ho216 := ho190.ext hx209
        have ho217 := ho191.ext hx209
        have ho218 := ho192.ext hx209
        have hb219 := hb193.ext hx209
        have hb220 := hb194.ext hx209
        refine AL.val rfl (.inl rfl) (HV.bd rfl (bd73_0_1 ho218.rd.isSl ho210.rd.isSl)) ?_
        have X222 := Ext.refl H208
        have y223 := hb219.lt
        have y224 := hb220.lt
        have o225 := X211.bd
        have o226 := X212.bd
        have o227 := X213.bd
        have o228 := X214.bd
        have o229 := X215.bd
        have o230 := X222.bd
        have a231 := ho216.ltb
        have a232 := ho217.ltb
        have a233 := ho218.ltb
        have a234 := ho210.ltb
        refine AL.w rfl (.inl rfl) (WV.bs (cs := [vw, v207]) sl67 rfl rfl (by first | rfl | simp [Instr.fill, Value.cells, rng2]) (one_cons (sl_one1 ho218.isSl) (one_cons (sl_one1 ho210.isSl) one_nil)) rfl) ?_
        rintro v235 H236 ⟨hx237, ho238⟩
        have X239 := Ext.trans X211 hx237
        have X240 := Ext.trans X212 hx237
        have X241 := Ext.trans X213 hx237
        have X242 := Ext.trans X214 hx237
        have X243 := Ext.trans X215 hx237
        have X244 := Ext.trans X222 hx237
        have ho245 := ho216.ext hx237
        have ho246 := ho217.ext hx237
        have ho247 := ho218.ext hx237
        have ho248 := ho210.ext hx237
        have hb249 := hb219.ext hx237
        have hb250 := hb220.ext hx237
        obtain ⟨lab251, css252, hS253, hV254⟩ := ho245
        have q262 := X241.bd
        have hn259 : ((kX (kO 2 kI) (kO 2 kI))).rd W H236 (fun b => H43.bd ≤ b) (gg, List.replicate n.toNat (0 : Int)) [vw, v207] := ⟨fun b => decide (b < H184.bd), [vw], [v207], rfl, ⟨_, rfl, ho247.narrow kI_flat (fun b e => ⟨Nat.le_trans o100 (ho247.blk b e).1, decide_eq_true (a206 b e)⟩)⟩, ⟨_, rfl, ho248.narrow kI_flat (fun b e => ⟨Nat.le_trans o201 (ho248.blk b e).1, decide_eq_false (Nat.not_lt.2 (ho248.blk b e).1)⟩)⟩⟩
        refine AL.w rfl (.inl rfl) (WV.call fn77 rfl (insert_ok (i := posV (seeV n g l i) gg) hV254.self ho238 (fun b hb _ e => by have h1 := (hV254.blk b e).1.2; have h2 : H208.bd ≤ b := hb; have h3 := o227; omega) (posV_le _ _) (by omega))) ?_
        rintro v255 H256 ⟨hx257, ho258⟩
        have hD260 := OwnD.ins (ok := fun b => (H4.bd ≤ b ∧ some b ≠ v30.ownBlock)) hS253 hV254 hn259 (posV_le (seeV n g l i) gg) q262 hx257 ho258
        have ho261 := hD260.okk (ok' := fun b => (H4.bd ≤ b ∧ some b ≠ v30.ownBlock)) (fun b hb _ => hb.elim id (fun h => ⟨Nat.le_trans q65 h, fun e => by have := gb63 b e; omega⟩))
        have X263 := Ext.thru X239 hx257 (fun b hb => Nat.le_trans o12 (hV254.blk b hb).1.1.1)
        have X264 := Ext.thru X240 hx257 (fun b hb => Nat.le_trans o13 (hV254.blk b hb).1.1.1)
        have ho269 := ho246.but hx257 (fun b h1 _ h2 => (hV254.blk b h2).1.1.2 h1.2) (fun b hb => (hV254.blk b hb).2.2)
        have hb270 := hb249.but hx257 (fun e => by have q : H4.bd ≤ _ := (hV254.blk _ e).1.1.1; omega)
        have hb271 := hb250.but hx257 (fun e => (fun (b' : Nat) (h1 : some b' = vv.ownBlock) (h2 : b' = b66) => by have q1 := (hV254.blk b' h1).1.2; subst h2; omega) _ e rfl)
        have ho272 : OwnD (kX (kO 2 kI) (kO 2 kI)) 73 W H256 (fun b => (H4.bd ≤ b ∧ some b ≠ v30.ownBlock)) v255 (putV n (seeV n g l i) gg) := (putV_new c195).symm ▸ ho261
        refine AL.val rfl (.inl rfl) (HV.as rfl) ?_
        refine AL.nil ?_
        refine nrm_and ?_
        refine AW.draw' [0, 0, 3, 7, 15, 0, 32, 127, 255, 511, 1023, 2047] mixed (by rfl) ?_
        refine Dr.read 0 _ 57 _ rfl rfl rfl rfl rfl (RV.of (by intro _ _ h; cases h) (.inl rfl) (fun _ xd => HV.mv rfl)) ?_
        refine Dr.read 1 _ 58 _ rfl rfl rfl rfl rfl (RV.of (by intro _ _ h; cases h) (.inl rfl) (fun _ xd => HV.mv rfl)) ?_
        obtain ⟨g273, z274, u275, hz276, hg277, hU278, hO279, hP280, hN281⟩ := OwnD.nest (q := (posV (seeV n g l i) gg : Int)) (kq := .i64) kI_flat ho272 rfl sl67 (by omega) (by have := putV_len (n := n) (st := seeV n g l i) (v := gg); omega)
        obtain ⟨cc, hc1, hc2, hc3⟩ := putV_at hse gg
        obtain rfl : z274 = (gg, cc) := Option.some.inj (hz276.symm.trans (by rw [Int.toNat_natCast]; exact hc1))
        have hgv : gg = viewL g z49.2 := by rw [hgg, show j = g.length by omega, List.take_length]
        refine Dr.read 2 _ 59 _ rfl rfl rfl rfl rfl (RV.of (by intro _ _ h; cases h) (.inl rfl) (fun _ xd => hP280 rfl rfl)) ?_
        refine Dr.read 3 _ 60 _ rfl rfl rfl rfl rfl (RV.of (by intro _ _ h; cases h) (.inl rfl) (fun _ xd => HV.fa fl73_1 rfl)) ?_
        refine Dr.read 4 _ 61 _ rfl rfl rfl rfl rfl (RV.of (by intro _ _ h; cases h) (.inl rfl) (fun _ xd => HV.ld rfl va22 (rdc_ext xd hU278))) ?_
        refine Dr.read 5 _ 62 _ rfl rfl rfl rfl rfl (RV.of (by intro _ _ h; cases h) (.inl rfl) (fun _ xd => HV.fa fl54_0 rfl)) ?_
        refine Dr.read 6 _ 63 _ rfl rfl rfl rfl rfl (RV.of (by intro _ _ h; cases h) (.inl rfl) (fun _ xd => HV.ld rfl va2 (rdc_ext xd (at_cell hb271 rfl)))) ?_
        obtain ⟨g282, z283, cs284, hz285, hK286, hC287, hg288, hP289⟩ := OwnK.ix (q := z49.1) hO279 sl22 hrow.1.1 (by show _ < ((cc.length : Nat) : Int); omega)
        have X290 := Ext.refl H256
        obtain rfl : cs284 = [.int .i64 z283] := hK286
        refine Dr.read 7 _ 64 _ rfl rfl rfl rfl rfl (RV.of (by intro _ _ h; cases h) (.inl rfl) (fun _ xd => hP289 rfl rfl)) ?_
        refine Dr.read 8 _ 65 _ rfl rfl rfl rfl rfl (RV.of (by intro _ _ h; cases h) (.inl rfl) (fun _ xd => HV.ld rfl va2 (rdc_ext xd (cells_first hC287 rfl)))) ?_
        refine Dr.read 9 _ 66 _ rfl rfl rfl rfl rfl (RV.of (by intro _ _ h; cases h) (.inl rfl) (fun _ xd => HV.add rfl rfl (by have := hc3 _ (List.mem_of_getElem? hz285); omega))) ?_
        obtain ⟨g291, z292, cs293, hz294, hK295, hC296, hg297, hP298⟩ := OwnK.ix (q := z49.1) hO279 sl22 hrow.1.1 (by show _ < ((cc.length : Nat) : Int); omega)
        obtain rfl : cs293 = [.int .i64 z292] := hK295
        refine Dr.read 10 _ 67 _ rfl rfl rfl rfl rfl (RV.of (by intro _ _ h; cases h) (.inl rfl) (fun _ xd => hP298 rfl rfl)) ?_
        refine Dr.eff 11 _ _ rfl (by intro d h; cases h) rfl rfl rfl (EC.of (by intro _ _ h; cases h) (.inl rfl) (WV.stK (okx := fun _ => False) (x' := z283 + 1) hO279 hg297 rfl rfl va2 (by show _ < cc.length; omega) rfl (fun _ h => h.elim))) (fun v H' h => .inr (.inl rfl)) ?_
        rintro _ H299 ⟨hx300, ho301⟩
        have X303 := Ext.thru X263 hx300 (fun b hb => Nat.le_trans o12 (hO279.blk b hb).1.1)
        have X304 := Ext.thru X264 hx300 (fun b hb => Nat.le_trans o13 (hO279.blk b hb).1.1)
        have ho306 := ho269.but hx300 (fun b h1 _ h2 => (hO279.blk b h2).1.2 h1.2) (fun b hb => (hO279.blk b hb).2.2)
        have hb307 := hb270.but hx300 (fun e => by have q : H4.bd ≤ _ := (hO279.blk _ e).1.1; omega)
        have ho302 := hN281 _ _ _ hx300 ho301
        refine Dr.fin rfl ?_
        refine nrm_blk (nrm_and ?_)
        refine AW.reg ?_
        refine AL.val rfl (.inl rfl) (HV.add rfl rfl (by omega)) ?_
        refine AL.val rfl (.inl rfl) (HV.mv rfl) ?_
        refine AL.nil ?_
        refine nrm_and ?_
        exact ⟨(i + 1, v255), ⟨X303, X304, hb307, by omega, by have e := addV_of (n := n) (st := seeV n g l i) (v := gg) (s := z49.1) rfl hz276 rfl hz285; rw [seeV_succ (n := n) (g := g) (gd hz51 rfl), ← hgv, ← e]; exact ho302, ho306, trivial⟩, by first | omega | (dsimp only; omega), ⟨rfl, rfl, rfl, rfl, rfl, rfl, rfl, trivial⟩⟩
      · -- else
        refine AW.skip ?_
        refine nrm_and ?_
        refine AW.draw' [0, 0, 3, 7, 15, 0, 32, 127, 255, 511, 1023, 2047] mixed (by rfl) ?_
        refine Dr.read 0 _ 57 _ rfl rfl rfl rfl rfl (RV.of (by intro _ _ h; cases h) (.inl rfl) (fun _ xd => HV.mv rfl)) ?_
        refine Dr.read 1 _ 58 _ rfl rfl rfl rfl rfl (RV.of (by intro _ _ h; cases h) (.inl rfl) (fun _ xd => HV.mv rfl)) ?_
        have ho317 : OwnD (kX (kO 2 kI) (kO 2 kI)) 73 W H184 (fun b => (H4.bd ≤ b ∧ some b ≠ v30.ownBlock) ∧ b < H43.bd) vv (putV n (seeV n g l i) gg) := by rw [putV_has (by simpa using c195)]; exact ho190
        obtain ⟨g308, z309, u310, hz311, hg312, hU313, hO314, hP315, hN316⟩ := OwnD.nest (q := (posV (seeV n g l i) gg : Int)) (kq := .i64) kI_flat ho317 rfl sl67 (by omega) (by have := putV_len (n := n) (st := seeV n g l i) (v := gg); omega)
        obtain ⟨cc, hc1, hc2, hc3⟩ := putV_at hse gg
        obtain rfl : z309 = (gg, cc) := Option.some.inj (hz311.symm.trans (by rw [Int.toNat_natCast]; exact hc1))
        have hgv : gg = viewL g z49.2 := by rw [hgg, show j = g.length by omega, List.take_length]
        refine Dr.read 2 _ 59 _ rfl rfl rfl rfl rfl (RV.of (by intro _ _ h; cases h) (.inl rfl) (fun _ xd => hP315 rfl rfl)) ?_
        refine Dr.read 3 _ 60 _ rfl rfl rfl rfl rfl (RV.of (by intro _ _ h; cases h) (.inl rfl) (fun _ xd => HV.fa fl73_1 rfl)) ?_
        refine Dr.read 4 _ 61 _ rfl rfl rfl rfl rfl (RV.of (by intro _ _ h; cases h) (.inl rfl) (fun _ xd => HV.ld rfl va22 (rdc_ext xd hU313))) ?_
        refine Dr.read 5 _ 62 _ rfl rfl rfl rfl rfl (RV.of (by intro _ _ h; cases h) (.inl rfl) (fun _ xd => HV.fa fl54_0 rfl)) ?_
        refine Dr.read 6 _ 63 _ rfl rfl rfl rfl rfl (RV.of (by intro _ _ h; cases h) (.inl rfl) (fun _ xd => HV.ld rfl va2 (rdc_ext xd (at_cell hb194 rfl)))) ?_
        obtain ⟨g318, z319, cs320, hz321, hK322, hC323, hg324, hP325⟩ := OwnK.ix (q := z49.1) hO314 sl22 hrow.1.1 (by show _ < ((cc.length : Nat) : Int); omega)
        have X326 := Ext.refl H184
        obtain rfl : cs320 = [.int .i64 z319] := hK322
        refine Dr.read 7 _ 64 _ rfl rfl rfl rfl rfl (RV.of (by intro _ _ h; cases h) (.inl rfl) (fun _ xd => hP325 rfl rfl)) ?_
        refine Dr.read 8 _ 65 _ rfl rfl rfl rfl rfl (RV.of (by intro _ _ h; cases h) (.inl rfl) (fun _ xd => HV.ld rfl va2 (rdc_ext xd (cells_first hC323 rfl)))) ?_
        refine Dr.read 9 _ 66 _ rfl rfl rfl rfl rfl (RV.of (by intro _ _ h; cases h) (.inl rfl) (fun _ xd => HV.add rfl rfl (by have := hc3 _ (List.mem_of_getElem? hz321); omega))) ?_
        obtain ⟨g327, z328, cs329, hz330, hK331, hC332, hg333, hP334⟩ := OwnK.ix (q := z49.1) hO314 sl22 hrow.1.1 (by show _ < ((cc.length : Nat) : Int); omega)
        obtain rfl : cs329 = [.int .i64 z328] := hK331
        refine Dr.read 10 _ 67 _ rfl rfl rfl rfl rfl (RV.of (by intro _ _ h; cases h) (.inl rfl) (fun _ xd => hP334 rfl rfl)) ?_
        refine Dr.eff 11 _ _ rfl (by intro d h; cases h) rfl rfl rfl (EC.of (by intro _ _ h; cases h) (.inl rfl) (WV.stK (okx := fun _ => False) (x' := z319 + 1) hO314 hg333 rfl rfl va2 (by show _ < cc.length; omega) rfl (fun _ h => h.elim))) (fun v H' h => .inr (.inl rfl)) ?_
        rintro _ H335 ⟨hx336, ho337⟩
        have X339 := Ext.thru X186 hx336 (fun b hb => Nat.le_trans o12 (hO314.blk b hb).1.1.1)
        have X340 := Ext.thru X187 hx336 (fun b hb => Nat.le_trans o13 (hO314.blk b hb).1.1.1)
        have ho344 := ho191.but hx336 (fun b h1 _ h2 => (hO314.blk b h2).1.1.2 h1.2) (fun b hb => (hO314.blk b hb).2.2)
        have hb345 := hb193.but hx336 (fun e => by have q : H4.bd ≤ _ := (hO314.blk _ e).1.1.1; omega)
        have ho338 := hN316 _ _ _ hx336 ho337
        refine Dr.fin rfl ?_
        refine nrm_blk (nrm_and ?_)
        refine AW.reg ?_
        refine AL.val rfl (.inl rfl) (HV.add rfl rfl (by omega)) ?_
        refine AL.val rfl (.inl rfl) (HV.mv rfl) ?_
        refine AL.nil ?_
        refine nrm_and ?_
        exact ⟨(i + 1, vv), ⟨X339, X340, hb345, by omega, by have e := addV_of (n := n) (st := seeV n g l i) (v := gg) (s := z49.1) rfl hz311 rfl hz321; rw [seeV_succ (n := n) (g := g) (gd hz51 rfl), ← hgv, ← e]; exact (ho338.okk (fun b hb _ => hb.1)), ho344, trivial⟩, by first | omega | (dsimp only; omega), ⟨rfl, rfl, rfl, rfl, rfl, rfl, rfl, trivial⟩⟩
  · -- else
    refine AW.exit ?_
    refine ex_and (ex_and (ex_blk ?_))
    refine nrm_and ?_
    refine AW.rs ?_
    refine AL.val rfl (.inl rfl) (HV.mv rfl) ?_
    refine AL.val rfl (.inl rfl) (HV.as rfl) ?_
    refine AL.nx ?_
    refine AW.ret ?_
    refine post_one rfl rfl ?_ (.inr rfl)
    exact ⟨X44, by have e : i = l.length := (by omega); subst e; exact hoD.okk (fun b hb _ => Nat.le_trans o12 hb.1)⟩

set_option maxRecDepth 100000 in
theorem tableCode_ok {vs v : Value} {s : List Int} {l : List (Int × List Int)} {oks ok : Nat → Prop} (n : Int) (hs : RdK kI W H oks vs s) (hr : RdK (kP kI (kR kI)) W H ok v l) {vg : Value} {g : List Int} {okg : Nat → Prop} (hgr : RdK kI W H okg vg g) : ACalls Try.prog W 47 #[.agg #[.int .i64 n, vs, v], vg] H (fun r H' => r = .int .i64 (codeT n s l g) ∧ Ext H H') := by
  refine ACalls.of (args := [.agg #[.int .i64 n, vs, v], vg]) Try.func47 rfl rfl ?_
  have X0 := Ext.refl H
  have hm1 := hs.max
  have hm2 := hr.max
  have hm3 := hgr.max
  refine AW.rs ?_
  refine AL.w rfl (.inl rfl) (WV.bx rfl rfl) ?_
  rintro _ H5 ⟨b4, rfl, hx6, hn7, hb8⟩
  have o9 := Nat.le_trans X0.bd hn7
  have X10 := Ext.trans X0 hx6
  have X11 := Ext.refl H5
  refine AL.val rfl (.inl rfl) (HV.as rfl) ?_
  refine AL.nx ?_
  refine AW.seq ?_
  refine AW.block ?_
  refine AW.rs ?_
  refine AL.val rfl (.inl rfl) (HV.lda (cs := [.int .i64 n, vs, v]) rfl va30 (at_cells hb8 rfl)) ?_
  refine AL.w rfl (.inl rfl) (WV.call fn16 rfl (implVT_ok n (hs.ext X10) (hr.ext X10))) ?_
  rintro _ H12 ⟨rfl, hx13⟩
  have X14 := Ext.trans X10 hx13
  have X15 := Ext.trans X11 hx13
  have hb16 := hb8.ext hx13
  refine AL.val rfl (.inl rfl) (HV.not rfl) ?_
  refine AL.val rfl (.inl rfl) (HV.as rfl) ?_
  refine AL.nx ?_
  refine AW.ifn rfl (fun c17 => ?_) (fun c17 => ?_)
  · -- then
    refine AW.rs ?_
    refine AL.val rfl (.inl rfl) (HV.as rfl) ?_
    refine AL.nx ?_
    refine AW.ret ?_
    refine ret_blk (ret_and ?_)
    refine post_one rfl rfl ?_ (.inr rfl)
    exact ⟨congrArg (Value.int .i64) (by unfold codeT; first | rw [if_neg (by assumption)] | rw [if_pos (by assumption), if_neg (by assumption)] | rw [if_pos (by assumption), if_pos (by assumption)]), X14⟩
  · -- else
    refine AW.rs ?_
    refine AL.val rfl (.inl rfl) (HV.fa fl30_1 rfl) ?_
    refine AL.val rfl (.inl rfl) (HV.ld rfl va22 (at_cell_add hb16 rfl)) ?_
    refine AL.val rfl (.inl rfl) (HV.len Try.underlying22 rfl hs.isSl) ?_
    refine AL.val rfl (.inl rfl) (HV.mv rfl) ?_
    refine AL.w rfl (.inl rfl) (WV.call fn73 rfl (isGroup_ok (s.length : Int) (hgr.ext X14) (by have := (by assumption : okT n s l).1.2.1; omega))) ?_
    rintro _ H18 ⟨rfl, hx19⟩
    have X20 := Ext.trans X14 hx19
    have X21 := Ext.trans X15 hx19
    have hb22 := hb16.ext hx19
    refine AL.val rfl (.inl rfl) (HV.not rfl) ?_
    refine AL.val rfl (.inl rfl) (HV.as rfl) ?_
    refine AL.nx ?_
    refine AW.ifn rfl (fun c23 => ?_) (fun c23 => ?_)
    · -- then
      refine AW.rs ?_
      refine AL.val rfl (.inl rfl) (HV.as rfl) ?_
      refine AL.nx ?_
      refine AW.ret ?_
      refine ret_blk (ret_and ?_)
      refine post_one rfl rfl ?_ (.inr rfl)
      exact ⟨congrArg (Value.int .i64) (by unfold codeT; first | rw [if_neg (by assumption)] | rw [if_pos (by assumption), if_neg (by assumption)] | rw [if_pos (by assumption), if_pos (by assumption)]), X20⟩
    · -- else
      refine AW.skip ?_
      refine nrm_blk (nrm_and ?_)
      refine AW.rs ?_
      refine AL.val rfl (.inl rfl) (HV.as rfl) ?_
      refine AL.nx ?_
      refine AW.ret ?_
      refine post_one rfl rfl ?_ (.inr rfl)
      exact ⟨congrArg (Value.int .i64) (by unfold codeT; first | rw [if_neg (by assumption)] | rw [if_pos (by assumption), if_neg (by assumption)] | rw [if_pos (by assumption), if_pos (by assumption)]), X20⟩

set_option maxRecDepth 100000 in
theorem l06Group_ok {vs v : Value} {s : List Int} {l : List (Int × List Int)} {oks ok : Nat → Prop} {n : Int} {b : Nat} (hs : RdK kI W H oks vs s) (hr : RdK (kP kI (kR kI)) W H ok v l) (hb : At W H b ⟨30, [.int .i64 n, vs, v], 3⟩) {vg : Value} {g : List Int} {okg : Nat → Prop} (hgr : RdK kI W H okg vg g) : ACalls Try.prog W 72 #[.pointer (some ⟨b, 0, none⟩), vg] H (fun r H' => r = .bool (decide (Ris 0 ((s.length : Int) - 1) g)) ∧ Ext H H') := by
  refine ACalls.of (args := [.pointer (some ⟨b, 0, none⟩), vg]) Try.func72 rfl rfl ?_
  have X0 := Ext.refl H
  have hm1 := hgr.max
  have hmS := hs.max
  refine AW.rs ?_
  refine AL.val rfl (.inl rfl) (HV.as rfl) ?_
  refine AL.nx ?_
  refine AW.rs ?_
  refine AL.val rfl (.inl rfl) (HV.mv rfl) ?_
  refine AL.val rfl (.inl rfl) (HV.mv rfl) ?_
  refine AL.val rfl (.inl rfl) (HV.nc rfl) ?_
  refine AL.val rfl (.inl rfl) (HV.fa fl30_1 rfl) ?_
  refine AL.val rfl (.inl rfl) (HV.ld rfl va22 (at_cell_add hb rfl)) ?_
  refine AL.val rfl (.inl rfl) (HV.len Try.underlying22 rfl hs.isSl) ?_
  refine AL.val rfl (.inl rfl) (HV.sub rfl rfl (by omega)) ?_
  refine AL.w rfl (.inl rfl) (WV.call fn88 rfl (l00Rises_ok 0 ((s.length : Int) - 1) hgr)) ?_
  rintro _ H2 ⟨rfl, hx3⟩
  have X4 := Ext.trans X0 hx3
  have hb5 := hb.ext hx3
  refine AL.val rfl (.inl rfl) (HV.as rfl) ?_
  refine AL.nx ?_
  refine AW.ret ?_
  refine post_one rfl rfl ?_ (.inr rfl)
  exact ⟨rfl, X4⟩

set_option maxRecDepth 100000 in
theorem l06Asked_ok {vs v : Value} {s : List Int} {l : List (Int × List Int)} {oks ok : Nat → Prop} {n : Int} {b : Nat} (hs : RdK kI W H oks vs s) (hr : RdK (kP kI (kR kI)) W H ok v l) (hb : At W H b ⟨30, [.int .i64 n, vs, v], 3⟩) {vg : Value} {g : List Int} {okg : Nat → Prop} (hgr : RdK kI W H okg vg g) : ACalls Try.prog W 45 #[.pointer (some ⟨b, 0, none⟩), vg] H (fun r H' => r = .int .i64 (codeT n s l g) ∧ Ext H H') := by
  refine ACalls.of (args := [.pointer (some ⟨b, 0, none⟩), vg]) Try.func45 rfl rfl ?_
  have X0 := Ext.refl H
  have hm1 := hgr.max
  refine AW.rs ?_
  refine AL.val rfl (.inl rfl) (HV.as rfl) ?_
  refine AL.nx ?_
  refine AW.seq ?_
  refine AW.rs ?_
  refine AL.val rfl (.inl rfl) (HV.mv rfl) ?_
  refine AL.w rfl (.inl rfl) (WV.call fn42 rfl (l06Ok_ok hs hr hb)) ?_
  rintro _ H2 ⟨rfl, hx3⟩
  have X4 := Ext.trans X0 hx3
  have hb5 := hb.ext hx3
  refine AL.val rfl (.inl rfl) (HV.not rfl) ?_
  refine AL.nx ?_
  refine AW.ifn rfl (fun c6 => ?_) (fun c6 => ?_)
  · -- then
    refine AW.rs ?_
    refine AL.val rfl (.inl rfl) (HV.as rfl) ?_
    refine AL.nx ?_
    refine AW.ret ?_
    refine ret_and ?_
    refine post_one rfl rfl ?_ (.inr rfl)
    exact ⟨congrArg (Value.int .i64) (by unfold codeT; first | rw [if_neg (by assumption)] | rw [if_pos (by assumption), if_neg (by assumption)] | rw [if_pos (by assumption), if_pos (by assumption)]), X4⟩
  · -- else
    refine AW.skip ?_
    refine nrm_and ?_
    refine AW.seq ?_
    refine AW.rs ?_
    refine AL.val rfl (.inl rfl) (HV.mv rfl) ?_
    refine AL.val rfl (.inl rfl) (HV.mv rfl) ?_
    refine AL.w rfl (.inl rfl) (WV.call fn72 rfl (l06Group_ok (hs.ext X4) (hr.ext X4) hb5 (hgr.ext X4))) ?_
    rintro _ H7 ⟨rfl, hx8⟩
    have X9 := Ext.trans X4 hx8
    have hb10 := hb5.ext hx8
    refine AL.val rfl (.inl rfl) (HV.not rfl) ?_
    refine AL.nx ?_
    refine AW.ifn rfl (fun c11 => ?_) (fun c11 => ?_)
    · -- then
      refine AW.rs ?_
      refine AL.val rfl (.inl rfl) (HV.as rfl) ?_
      refine AL.nx ?_
      refine AW.ret ?_
      refine ret_and ?_
      refine post_one rfl rfl ?_ (.inr rfl)
      exact ⟨congrArg (Value.int .i64) (by unfold codeT; first | rw [if_neg (by assumption)] | rw [if_pos (by assumption), if_neg (by assumption)] | rw [if_pos (by assumption), if_pos (by assumption)]), X9⟩
    · -- else
      refine AW.skip ?_
      refine nrm_and ?_
      refine AW.rs ?_
      refine AL.val rfl (.inl rfl) (HV.as rfl) ?_
      refine AL.nx ?_
      refine AW.ret ?_
      refine post_one rfl rfl ?_ (.inr rfl)
      exact ⟨congrArg (Value.int .i64) (by unfold codeT; first | rw [if_neg (by assumption)] | rw [if_pos (by assumption), if_neg (by assumption)] | rw [if_pos (by assumption), if_pos (by assumption)]), X9⟩

set_option maxRecDepth 100000 in
theorem l06View_ok {p : Addr} {v vg : Value} {l g : List Int} {a : Int} {ok okg : Nat → Prop} (hc1 : Cells W H p [.int .i64 a, v]) (hr : RdK kI W H ok v l) (hgr : RdK kI W H okg vg g) (hin : ∀ h ∈ g, 0 ≤ h ∧ h < (l.length : Int)) (hgn : g.length ≤ 1000) : ACalls Try.prog W 46 #[.pointer (some p), vg] H (fun r H' => Ext H H' ∧ OwnK kI 2 W H' (fun b => H.bd ≤ b) r (viewL g l)) := by
  refine ACalls.of (args := [.pointer (some p), vg]) Try.func46 rfl rfl ?_
  have X0 := Ext.refl H
  have hm1 := hgr.max
  refine AW.rs ?_
  refine AL.val rfl (.inl rfl) (HV.as rfl) ?_
  refine AL.nx ?_
  refine AW.rs ?_
  have o2 := X0.bd
  refine AL.w rfl (.inl rfl) (WV.bsK (K := kI) (l := ([] : List Int)) (css := []) sl22 rfl rfl (by first | rfl | (simp [Instr.fill, Value.cells, kI, kB, kU, kS, Kd.sc]; done) | (simp [Instr.fill, Value.cells, kI, kB, kU, kS, Kd.sc, rng1, rng2, rng3, rng4, kP])) rfl segs_nil) ?_
  rintro v3 H4 ⟨hx5, ho6⟩
  have X7 := Ext.trans X0 hx5
  refine AL.val rfl (.inl rfl) (HV.as rfl) ?_
  refine AL.nx ?_
  refine AW.seq ?_
  refine AW.rs ?_
  refine AL.val rfl (.inl rfl) (HV.as rfl) ?_
  refine AL.nx ?_
  refine AW.block ?_
  refine AW.loop (σ := Nat × Value × List Int) (fun ⟨j, vw, gg⟩ => [(0, .pointer (some p)), (1, vg), (4, (.slice none 0 0)), (5, vw), (6, .int .i64 (j : Int))]) (fun ⟨j, vw, gg⟩ H' => Ext H H' ∧ j ≤ g.length ∧ gg = viewL (g.take j) l ∧ OwnK kI 2 W H' (fun b => H.bd ≤ b) vw gg ∧ True) (fun ⟨j, vw, gg⟩ => g.length - j) (0, v3, []) ⟨X7, Nat.zero_le _, rfl, ho6, trivial⟩ ⟨rfl, rfl, rfl, rfl, rfl, trivial⟩ ?_
  rintro ⟨j, vw, gg⟩ H9 ⟨X10, hj, hgg, hoL, _⟩
  have hgl : gg.length = j := by rw [hgg, viewL_len, List.length_take]; omega
  refine AW.seq ?_
  refine AW.rs ?_
  refine AL.val rfl (.inl rfl) (HV.mv rfl) ?_
  refine AL.val rfl (.inl rfl) (HV.mv rfl) ?_
  refine AL.val rfl (.inl rfl) (HV.len Try.underlying22 rfl hgr.isSl) ?_
  refine AL.val rfl (.inl rfl) (HV.lti rfl rfl) ?_
  refine AL.nx ?_
  refine AW.ifd rfl (fun c11 => ?_) (fun c11 => ?_)
  · -- then
    refine AW.skip ?_
    refine nrm_and ?_
    refine AW.seq ?_
    refine AW.block ?_
    refine AW.draw' [0, 0, 2, 6, 14, 0, 0, 96, 224, 510, 1022, 2046, 4095, 8191] mixed (by rfl) ?_
    refine Dr.read 0 _ 14 _ rfl rfl rfl rfl rfl (RV.of (by intro _ _ h; cases h) (.inl rfl) (fun _ xd => HV.mv rfl)) ?_
    refine Dr.read 1 _ 15 _ rfl rfl rfl rfl rfl (RV.of (by intro _ _ h; cases h) (.inl rfl) (fun _ xd => HV.mv rfl)) ?_
    refine Dr.read 2 _ 16 _ rfl rfl rfl rfl rfl (RV.of (by intro _ _ h; cases h) (.inl rfl) (fun _ xd => HV.nc rfl)) ?_
    refine Dr.read 3 _ 17 _ rfl rfl rfl rfl rfl (RV.of (by intro _ _ h; cases h) (.inl rfl) (fun _ xd => HV.fa fl54_1 rfl)) ?_
    refine Dr.read 4 _ 18 _ rfl rfl rfl rfl rfl (RV.of (by intro _ _ h; cases h) (.inl rfl) (fun _ xd => HV.ld rfl va22 (rdc_ext xd (cells_at (hc1.ext X10) rfl)))) ?_
    refine Dr.read 5 _ 19 _ rfl rfl rfl rfl rfl (RV.of (by intro _ _ h; cases h) (.inl rfl) (fun _ xd => HV.mv rfl)) ?_
    refine Dr.read 6 _ 20 _ rfl rfl rfl rfl rfl (RV.of (by intro _ _ h; cases h) (.inl rfl) (fun _ xd => HV.mv rfl)) ?_
    obtain ⟨p12, z13, cs14, hz15, hK16, hC17, hP18⟩ := RdK.ix (q := (j : Int)) hgr sl22 (by omega) (by omega)
    obtain rfl : cs14 = [.int .i64 z13] := hK16
    refine Dr.read 7 _ 21 _ rfl rfl rfl rfl rfl (RV.of (by intro _ _ h; cases h) (.inl rfl) (fun _ xd => hP18 rfl rfl)) ?_
    refine Dr.read 8 _ 22 _ rfl rfl rfl rfl rfl (RV.of (by intro _ _ h; cases h) (.inl rfl) (fun _ xd => HV.ld rfl va2 (rdc_ext xd (cells_first (hC17.ext X10) rfl)))) ?_
    obtain ⟨p19, z20, cs21, hz22, hK23, hC24, hP25⟩ := RdK.ix (q := z13) hr sl22 (by have := hin _ (List.mem_of_getElem? hz15); omega) (by have := hin _ (List.mem_of_getElem? hz15); omega)
    obtain rfl : cs21 = [.int .i64 z20] := hK23
    refine Dr.read 9 _ 23 _ rfl rfl rfl rfl rfl (RV.of (by intro _ _ h; cases h) (.inl rfl) (fun _ xd => hP25 rfl rfl)) ?_
    refine Dr.read 10 _ 24 _ rfl rfl rfl rfl rfl (RV.of (by intro _ _ h; cases h) (.inl rfl) (fun _ xd => HV.ld rfl va2 (rdc_ext xd (cells_first (hC24.ext X10) rfl)))) ?_
    have X26 := Ext.refl H9
    have o27 := X10.bd
    have o28 := X26.bd
    have a29 := hoL.ltb
    refine Dr.eff 11 _ _ rfl (by intro d h; cases h; exact ⟨rfl, rfl⟩) rfl rfl rfl (EC.of (by intro _ _ h; cases h) (.inl rfl) (WV.bsK (K := kI) (l := ([z20] : List Int)) (css := [[.int .i64 z20]]) sl22 rfl rfl (by first | rfl | (simp [Instr.fill, Value.cells, kI, kB, kU, kS, Kd.sc]; done) | (simp [Instr.fill, Value.cells, kI, kB, kU, kS, Kd.sc, rng1, rng2, rng3, rng4, kP])) rfl (segs_cons rfl segs_nil))) (fun v H' h => .inl (h.1)) ?_
    rintro v30 H31 ⟨hx32, ho33⟩
    have X34 := Ext.trans X10 hx32
    have X35 := Ext.trans X26 hx32
    have ho36 := hoL.ext hx32
    have X38 := Ext.refl H31
    refine Dr.eff 12 _ _ rfl (by intro d h; cases h; exact ⟨rfl, rfl⟩) rfl rfl rfl (EC.of (by intro _ _ h; cases h) (.inl rfl) (WV.apk sl22 rfl rfl ho36 ho33.rd (by rw [List.length_singleton]; omega) (by rw [List.length_singleton]; omega) (fun b hb _ e => Nat.lt_irrefl _ (Nat.lt_of_lt_of_le (a29 b e) hb)))) (fun v H' h => .inr (.inl rfl)) ?_
    rintro v39 H40 ⟨hx41, ho42, hb43⟩
    have ho44 := ho42.narrow (ok' := fun b => H.bd ≤ b) kI_flat (fun b q => (hb43 b q).elim (fun e => (ho36.blk b e).1) (fun e => Nat.le_trans X34.bd e))
    have X45 := Ext.thru X34 hx41 (fun b hb => Nat.le_trans o2 (ho36.blk b hb).1)
    refine Dr.eff 13 _ _ rfl (by intro d h; cases h; exact ⟨rfl, rfl⟩) rfl rfl rfl (EC.of (by intro _ _ h; cases h) (.inl rfl) (WV.ofHV (HV.as rfl))) (fun v H' h => .inl (h.2 ▸ Ext.refl _)) ?_
    rintro u_ h_ ⟨e1_, e2_⟩
    rw [e1_, e2_]
    clear e1_ e2_ u_ h_
    refine Dr.fin rfl ?_
    refine nrm_blk (nrm_and ?_)
    refine AW.reg ?_
    refine AL.val rfl (.inl rfl) (HV.mv rfl) ?_
    refine AL.val rfl (.inl rfl) (HV.add rfl rfl (by omega)) ?_
    refine AL.val rfl (.inl rfl) (HV.as rfl) ?_
    refine AL.nil ?_
    refine nrm_and ?_
    exact ⟨(j + 1, v39, (gg ++ (([z20] : List Int) : List Int))), ⟨X45, by omega, by rw [viewL_snoc (getq hz15 rfl), hgg]; congr 2; exact (gd hz22 (by have := hin _ (List.mem_of_getElem? hz15); omega)).symm, ho44, trivial⟩, by first | omega | (dsimp only; omega), ⟨rfl, rfl, rfl, rfl, rfl, trivial⟩⟩
  · -- else
    refine AW.exit ?_
    refine ex_and (ex_and (ex_blk ?_))
    refine nrm_and ?_
    refine AW.rs ?_
    refine AL.val rfl (.inl rfl) (HV.mv rfl) ?_
    refine AL.val rfl (.inl rfl) (HV.as rfl) ?_
    refine AL.nx ?_
    refine AW.ret ?_
    refine post_one rfl rfl ?_ (.inr rfl)
    exact ⟨X10, by obtain rfl : j = g.length := (by omega); rw [List.take_length] at hgg; rw [← hgg]; exact hoL.okk (fun b hb _ => Nat.le_trans o2 hb)⟩

set_option maxRecDepth 100000 in
theorem specOV_ok {vs v : Value} {s : List Int} {l : List (Int × List Int)} {oks ok : Nat → Prop} (n : Int) (hs : RdK kI W H oks vs s) (hr : RdK (kP kI (kR kI)) W H ok v l) {vg vm : Value} {g m : List Int} {okg okm : Nat → Prop} (hgr : RdK kI W H okg vg g) (hmr : RdK kI W H okm vm m) : ACalls Try.prog W 17 #[.agg #[.int .i64 n, vs, v], vg, vm] H (fun r H' => r = .tuple #[.int .i64 (ovR n s l g m).1, .int .i64 (ovR n s l g m).2] ∧ Ext H H') := by
  refine ACalls.of (args := [.agg #[.int .i64 n, vs, v], vg, vm]) Try.func17 rfl rfl ?_
  have X0 := Ext.refl H
  have hm1 := hs.max
  have hm2 := hr.max
  have hm3 := hgr.max
  have hm4 := hmr.max
  refine AW.rs ?_
  refine AL.w rfl (.inl rfl) (WV.bx rfl rfl) ?_
  rintro _ H6 ⟨b5, rfl, hx7, hn8, hb9⟩
  have o10 := Nat.le_trans X0.bd hn8
  have X11 := Ext.trans X0 hx7
  have X12 := Ext.refl H6
  refine AL.val rfl (.inl rfl) (HV.as rfl) ?_
  refine AL.val rfl (.inl rfl) (HV.as rfl) ?_
  refine AL.nx ?_
  refine AW.seq ?_
  refine AW.rs ?_
  refine AL.val rfl (.inl rfl) (HV.mv rfl) ?_
  refine AL.w rfl (.inl rfl) (WV.call fn45 rfl (l06Asked_ok (hs.ext X11) (hr.ext X11) hb9 (hgr.ext X11))) ?_
  rintro _ H13 ⟨rfl, hx14⟩
  have X15 := Ext.trans X11 hx14
  have X16 := Ext.trans X12 hx14
  have hb17 := hb9.ext hx14
  refine AL.val rfl (.inl rfl) (HV.as rfl) ?_
  refine AL.nx ?_
  refine AW.rs ?_
  refine AL.val rfl (.inl rfl) (HV.mv rfl) ?_
  refine AL.val rfl (.inl rfl) (HV.nei rfl rfl) ?_
  refine AL.nx ?_
  refine AW.ifd rfl (fun c18 => ?_) (fun c18 => ?_)
  · -- then
    refine AW.rs ?_
    refine AL.val rfl (.inl rfl) (HV.mv rfl) ?_
    refine AL.val rfl (.inl rfl) (HV.as rfl) ?_
    refine AL.val rfl (.inl rfl) (HV.as rfl) ?_
    refine AL.nx ?_
    refine AW.ret ?_
    refine ret_and ?_
    refine post_two rfl rfl rfl ?_ (.inr rfl)
    have hne := c18; exact ⟨by unfold ovR; rw [if_neg hne], X15⟩
  · -- else
    refine AW.skip ?_
    refine nrm_and ?_
    refine AW.seq ?_
    refine AW.rs ?_
    have hcd : codeT n s l g = 0 := (by omega)
    refine AL.val rfl (.inl rfl) (HV.mv rfl) ?_
    refine AL.val rfl (.inl rfl) (HV.len Try.underlying22 rfl hmr.isSl) ?_
    refine AL.val rfl (.inl rfl) (HV.mv rfl) ?_
    refine AL.val rfl (.inl rfl) (HV.len Try.underlying22 rfl hgr.isSl) ?_
    refine AL.val rfl (.inl rfl) (HV.nei rfl rfl) ?_
    refine AL.nx ?_
    refine AW.ifd rfl (fun c19 => ?_) (fun c19 => ?_)
    · -- then
      refine AW.rs ?_
      refine AL.val rfl (.inl rfl) (HV.as rfl) ?_
      refine AL.val rfl (.inl rfl) (HV.as rfl) ?_
      refine AL.nx ?_
      refine AW.ret ?_
      refine ret_and ?_
      refine post_two rfl rfl rfl ?_ (.inr rfl)
      exact ⟨by unfold ovR; rw [if_pos hcd, if_neg (fun h => by rw [h] at c19; exact c19 rfl)], X15⟩
    · -- else
      refine AW.skip ?_
      refine nrm_and ?_
      refine AW.rs ?_
      refine AL.val rfl (.inl rfl) (HV.as rfl) ?_
      refine AL.nx ?_
      refine AW.seq ?_
      refine AW.rs ?_
      refine AL.val rfl (.inl rfl) (HV.as rfl) ?_
      refine AL.nx ?_
      refine AW.block ?_
      have hcd : codeT n s l g = 0 := (by omega)
      have hok := (code0.1 hcd).1
      have hgr_ := (code0.1 hcd).2
      have hs7 := hok.1.2.1
      have hg7 := ris_len hs7 hgr_
      have hin := grp_in hgr_
      have X20 := Ext.refl H13
      refine AW.loop (σ := Nat × Int) (fun ⟨i, sec⟩ => [(1, vg), (2, vm), (3, .pointer (some ⟨b5, 0, none⟩)), (9, .int .i64 sec), (10, .int .i64 (i : Int))]) (fun ⟨i, sec⟩ H' => Ext H H' ∧ Ext H6 H' ∧ Ext H13 H' ∧ At W H' b5 ⟨30, [.int .i64 n, vs, v], 3⟩ ∧ i ≤ l.length ∧ ((sec = -1 ∧ ∀ k, k < i → viewL g (l.getD k (0, [])).2 ≠ m) ∨ (∃ k, k < i ∧ viewL g (l.getD k (0, [])).2 = m ∧ (l.getD k (0, [])).1 = sec ∧ 0 ≤ sec ∧ ∀ j, j < i → viewL g (l.getD j (0, [])).2 = m → (l.getD j (0, [])).1 = sec)) ∧ True) (fun ⟨i, sec⟩ => l.length - i) (0, (-1)) ⟨X15, X16, X20, hb17, Nat.zero_le _, .inl ⟨rfl, fun k hk => absurd hk (Nat.not_lt_zero _)⟩, trivial⟩ ⟨rfl, rfl, rfl, rfl, rfl, trivial⟩ ?_
      rintro ⟨i, sec⟩ H21 ⟨X22, X23, X24, hb25, hi, hsec, _⟩
      refine AW.seq ?_
      refine AW.rs ?_
      refine AL.val rfl (.inl rfl) (HV.mv rfl) ?_
      refine AL.val rfl (.inl rfl) (HV.fa fl30_2 rfl) ?_
      refine AL.val rfl (.inl rfl) (HV.ld rfl va28 (at_cell_add hb25 rfl)) ?_
      refine AL.val rfl (.inl rfl) (HV.len Try.underlying28 rfl hr.isSl) ?_
      refine AL.val rfl (.inl rfl) (HV.lti rfl rfl) ?_
      refine AL.nx ?_
      refine AW.ifd rfl (fun c26 => ?_) (fun c26 => ?_)
      · -- then
        refine AW.skip ?_
        refine nrm_and ?_
        refine AW.seq ?_
        refine AW.block ?_
        refine AW.seq ?_
        refine AW.rs ?_
        refine AL.val rfl (.inl rfl) (HV.fa fl30_2 rfl) ?_
        refine AL.val rfl (.inl rfl) (HV.ld rfl va28 (at_cell_add hb25 rfl)) ?_
        refine AL.val rfl (.inl rfl) (HV.mv rfl) ?_
        obtain ⟨p27, z28, cs29, hz30, hK31, hC32, hP33⟩ := RdK.ix (q := (i : Int)) hr sl28 (by omega) (by omega)
        obtain ⟨cs34, cs35, rfl, hK36, hK37⟩ := hK31
        obtain rfl : cs34 = [.int .i64 z28.1] := hK36
        obtain ⟨v38, rfl, hr39⟩ := hK37
        have hm40 := hr39.max
        refine AL.val rfl (.inl rfl) (hP33 rfl rfl) ?_
        have hrow := hok.1.2.2.2.2 i (by omega)
        rw [(gd hz30 rfl : l.getD i (0, []) = z28)] at hrow
        have hrl := hrow.2.1
        refine AL.val rfl (.inl rfl) (HV.mv rfl) ?_
        refine AL.w rfl (.inl rfl) (WV.call fn46 rfl (l06View_ok (hC32.ext X22) (hr39.ext X22) (hgr.ext X22) (fun h hh => by rw [hrl]; exact hin h hh) (by omega))) ?_
        rintro v41 H42 ⟨hx43, ho44⟩
        have X46 := Ext.trans X22 hx43
        have X47 := Ext.trans X23 hx43
        have X48 := Ext.trans X24 hx43
        have hb49 := hb25.ext hx43
        have X50 := Ext.refl H42
        have hr45 := ho44.rd
        refine AL.val rfl (.inl rfl) (HV.mv rfl) ?_
        refine AL.w rfl (.inl rfl) (WV.call fn36 rfl (l00Same_ok hr45 (hmr.ext X46))) ?_
        rintro _ H51 ⟨rfl, hx52⟩
        have X53 := Ext.trans X46 hx52
        have X54 := Ext.trans X47 hx52
        have X55 := Ext.trans X48 hx52
        have X56 := Ext.trans X50 hx52
        have hb57 := hb49.ext hx52
        refine AL.val rfl (.inl rfl) (HV.not rfl) ?_
        refine AL.nx ?_
        refine AW.ifn rfl (fun c58 => ?_) (fun c58 => ?_)
        · -- then
          refine AW.exit ?_
          refine ex_and (ex_blk ?_)
          refine nrm_and ?_
          refine AW.reg ?_
          refine AL.val rfl (.inl rfl) (HV.mv rfl) ?_
          refine AL.val rfl (.inl rfl) (HV.add rfl rfl (by omega)) ?_
          refine AL.val rfl (.inl rfl) (HV.as rfl) ?_
          refine AL.nil ?_
          refine nrm_and ?_
          exact ⟨(i + 1, sec), ⟨X53, X54, X55, hb57, by omega, by have hvv : ¬ viewL g z28.2 = m := (by simpa using c58); exact hsec.elim (fun h => .inl ⟨h.1, fun k hk => (Nat.lt_or_ge k i).elim (h.2 k) (fun h1 => by rw [show k = i by omega, (gd hz30 rfl : l.getD i (0, []) = z28)]; exact hvv)⟩) (fun ⟨k, h1, h2, h3, h4, h5⟩ => .inr ⟨k, by omega, h2, h3, h4, fun j hj e => (Nat.lt_or_ge j i).elim (fun h => h5 j h e) (fun h => by rw [show j = i by omega, (gd hz30 rfl : l.getD i (0, []) = z28)] at e; exact absurd e hvv)⟩), trivial⟩, by first | omega | (dsimp only; omega), ⟨rfl, rfl, rfl, rfl, rfl, trivial⟩⟩
        · -- else
          refine AW.skip ?_
          refine nrm_and ?_
          refine AW.seq ?_
          refine AW.rs ?_
          refine AL.val rfl (.inl rfl) (HV.mv rfl) ?_
          refine AL.val rfl (.inl rfl) (HV.gei rfl rfl) ?_
          refine AL.val rfl (.inl rfl) (HV.mv rfl) ?_
          by_cases c59 : sec ≥ 0
          · -- true
            have c59_ : decide (sec ≥ 0) = true := decide_eq_true c59
            rw [c59_]
            refine AL.val rfl (.inr ⟨_, _, _, rfl, rfl, rfl⟩) (HV.mv rfl) ?_
            refine AL.val rfl (.inr ⟨_, _, _, rfl, rfl, rfl⟩) (HV.fa fl30_2 rfl) ?_
            refine AL.val rfl (.inr ⟨_, _, _, rfl, rfl, rfl⟩) (HV.ld rfl va28 (at_cell_add hb57 rfl)) ?_
            refine AL.val rfl (.inr ⟨_, _, _, rfl, rfl, rfl⟩) (HV.mv rfl) ?_
            obtain ⟨p60, z61, cs62, hz63, hK64, hC65, hP66⟩ := RdK.ix (q := (i : Int)) hr sl28 (by omega) (by omega)
            obtain ⟨cs67, cs68, rfl, hK69, hK70⟩ := hK64
            obtain rfl : cs67 = [.int .i64 z61.1] := hK69
            obtain ⟨v71, rfl, hr72⟩ := hK70
            have hm73 := hr72.max
            refine AL.val rfl (.inr ⟨_, _, _, rfl, rfl, rfl⟩) (hP66 rfl rfl) ?_
            refine AL.val rfl (.inr ⟨_, _, _, rfl, rfl, rfl⟩) (HV.fa fl54_0 rfl) ?_
            refine AL.val rfl (.inr ⟨_, _, _, rfl, rfl, rfl⟩) (HV.ld rfl va2 (cells_first (hC65.ext X53) rfl)) ?_
            refine AL.val rfl (.inr ⟨_, _, _, rfl, rfl, rfl⟩) (HV.nei rfl rfl) ?_
            refine AL.val rfl (.inl rfl) (HV.pickT rfl rfl) ?_
            refine AL.nx ?_
            refine AW.ifd rfl (fun c74 => ?_) (fun c74 => ?_)
            · -- then
              refine AW.rs ?_
              refine AL.val rfl (.inl rfl) (HV.as rfl) ?_
              refine AL.val rfl (.inl rfl) (HV.as rfl) ?_
              refine AL.nx ?_
              refine AW.ret ?_
              refine ret_and (ret_blk (ret_and (ret_and (ret_blk (ret_and ?_)))))
              refine post_two rfl rfl rfl ?_ (.inr rfl)
              have hln : m.length = g.length := (by omega); obtain ⟨k, hk1, hk2, hk3, hk4, hk5⟩ := hsec.resolve_left (fun h => by have := h.1; omega); have hvv : viewL g z28.2 = m := (by simpa using c58); have e := secV_two (g := g) (v := m) (l := l) (k := k) (j := i) ⟨by omega, hk2⟩ ⟨by omega, by rw [(gd hz30 rfl : l.getD i (0, []) = z28)]; exact hvv⟩ (by rw [(gd hz63 rfl : l.getD i (0, []) = z61), hk3]; exact fun h => c74 h.symm); exact ⟨by unfold ovR; rw [if_pos hcd, if_pos hln, e], X53⟩
            · -- else
              refine AW.skip ?_
              refine nrm_and ?_
              refine AW.reg ?_
              refine AL.val rfl (.inl rfl) (HV.fa fl30_2 rfl) ?_
              refine AL.val rfl (.inl rfl) (HV.ld rfl va28 (at_cell_add hb57 rfl)) ?_
              refine AL.val rfl (.inl rfl) (HV.mv rfl) ?_
              obtain ⟨p75, z76, cs77, hz78, hK79, hC80, hP81⟩ := RdK.ix (q := (i : Int)) hr sl28 (by omega) (by omega)
              obtain ⟨cs82, cs83, rfl, hK84, hK85⟩ := hK79
              obtain rfl : cs82 = [.int .i64 z76.1] := hK84
              obtain ⟨v86, rfl, hr87⟩ := hK85
              have hm88 := hr87.max
              refine AL.val rfl (.inl rfl) (hP81 rfl rfl) ?_
              refine AL.val rfl (.inl rfl) (HV.fa fl54_0 rfl) ?_
              refine AL.val rfl (.inl rfl) (HV.ld rfl va2 (cells_first (hC80.ext X53) rfl)) ?_
              refine AL.val rfl (.inl rfl) (HV.as rfl) ?_
              refine AL.nil ?_
              refine nrm_blk (nrm_and ?_)
              refine AW.reg ?_
              refine AL.val rfl (.inl rfl) (HV.mv rfl) ?_
              refine AL.val rfl (.inl rfl) (HV.add rfl rfl (by omega)) ?_
              refine AL.val rfl (.inl rfl) (HV.as rfl) ?_
              refine AL.nil ?_
              refine nrm_and ?_
              exact ⟨(i + 1, z76.1), ⟨X53, X54, X55, hb57, by omega, by have hvv : viewL g z28.2 = m := (by simpa using c58); have hb := okT_rows hok i (by omega); rw [(gd hz78 rfl : l.getD i (0, []) = z76)] at hb; exact .inr ⟨i, by omega, by rw [(gd hz30 rfl : l.getD i (0, []) = z28)]; exact hvv, by rw [(gd hz78 rfl : l.getD i (0, []) = z76)], hb.1, (fun j hj e => (Nat.lt_or_ge j i).elim (fun h => (hsec.elim (fun q => absurd e (q.2 j h)) (fun ⟨k, h1, h2, h3, h4, h5⟩ => (h5 j h e).trans (by have q1 := hz63; have q2 := hz78; rw [q1] at q2; first | omega | (have q3 := congrArg Prod.fst (Option.some.inj q2); omega))))) (fun h => by rw [show j = i by omega, (gd hz78 rfl : l.getD i (0, []) = z76)]))⟩, trivial⟩, by first | omega | (dsimp only; omega), ⟨rfl, rfl, rfl, rfl, rfl, trivial⟩⟩
          · -- false
            have c59_ : decide (sec ≥ 0) = false := decide_eq_false c59
            rw [c59_]
            refine AL.off rfl rfl (by decide) rfl ?_
            refine AL.off rfl rfl (by decide) rfl ?_
            refine AL.off rfl rfl (by decide) rfl ?_
            refine AL.off rfl rfl (by decide) rfl ?_
            refine AL.off rfl rfl (by decide) rfl ?_
            refine AL.off rfl rfl (by decide) rfl ?_
            refine AL.off rfl rfl (by decide) rfl ?_
            refine AL.off rfl rfl (by decide) rfl ?_
            refine AL.val rfl (.inl rfl) (HV.pickF rfl rfl) ?_
            refine AL.nx ?_
            refine AW.cond rfl (fun h => by cases h) (fun _ => ?_)
            refine AW.skip ?_
            refine nrm_and ?_
            refine AW.reg ?_
            refine AL.val rfl (.inl rfl) (HV.fa fl30_2 rfl) ?_
            refine AL.val rfl (.inl rfl) (HV.ld rfl va28 (at_cell_add hb57 rfl)) ?_
            refine AL.val rfl (.inl rfl) (HV.mv rfl) ?_
            obtain ⟨p90, z91, cs92, hz93, hK94, hC95, hP96⟩ := RdK.ix (q := (i : Int)) hr sl28 (by omega) (by omega)
            obtain ⟨cs97, cs98, rfl, hK99, hK100⟩ := hK94
            obtain rfl : cs97 = [.int .i64 z91.1] := hK99
            obtain ⟨v101, rfl, hr102⟩ := hK100
            have hm103 := hr102.max
            refine AL.val rfl (.inl rfl) (hP96 rfl rfl) ?_
            refine AL.val rfl (.inl rfl) (HV.fa fl54_0 rfl) ?_
            refine AL.val rfl (.inl rfl) (HV.ld rfl va2 (cells_first (hC95.ext X53) rfl)) ?_
            refine AL.val rfl (.inl rfl) (HV.as rfl) ?_
            refine AL.nil ?_
            refine nrm_blk (nrm_and ?_)
            refine AW.reg ?_
            refine AL.val rfl (.inl rfl) (HV.mv rfl) ?_
            refine AL.val rfl (.inl rfl) (HV.add rfl rfl (by omega)) ?_
            refine AL.val rfl (.inl rfl) (HV.as rfl) ?_
            refine AL.nil ?_
            refine nrm_and ?_
            exact ⟨(i + 1, z91.1), ⟨X53, X54, X55, hb57, by omega, by have hvv : viewL g z28.2 = m := (by simpa using c58); have hb := okT_rows hok i (by omega); rw [(gd hz93 rfl : l.getD i (0, []) = z91)] at hb; exact .inr ⟨i, by omega, by rw [(gd hz30 rfl : l.getD i (0, []) = z28)]; exact hvv, by rw [(gd hz93 rfl : l.getD i (0, []) = z91)], hb.1, (fun j hj e => (Nat.lt_or_ge j i).elim (fun h => (hsec.elim (fun q => absurd e (q.2 j h)) (fun ⟨k, h1, h2, h3, h4, h5⟩ => (h5 j h e).trans (by omega)))) (fun h => by rw [show j = i by omega, (gd hz93 rfl : l.getD i (0, []) = z91)]))⟩, trivial⟩, by first | omega | (dsimp only; omega), ⟨rfl, rfl, rfl, rfl, rfl, trivial⟩⟩
      · -- else
        refine AW.exit ?_
        refine ex_and (ex_and (ex_blk ?_))
        refine nrm_and ?_
        refine AW.seq ?_
        refine AW.rs ?_
        refine AL.val rfl (.inl rfl) (HV.mv rfl) ?_
        refine AL.val rfl (.inl rfl) (HV.lti rfl rfl) ?_
        refine AL.nx ?_
        refine AW.ifd rfl (fun c104 => ?_) (fun c104 => ?_)
        · -- then
          refine AW.rs ?_
          refine AL.val rfl (.inl rfl) (HV.as rfl) ?_
          refine AL.val rfl (.inl rfl) (HV.as rfl) ?_
          refine AL.nx ?_
          refine AW.ret ?_
          refine ret_and ?_
          refine post_two rfl rfl rfl ?_ (.inr rfl)
          have hln : m.length = g.length := (by omega); have e := secV_none (g := g) (v := m) (l := l) (fun k hk => hsec.elim (fun h => h.2 k (by have := hk.1; omega) hk.2) (fun ⟨k, h1, h2, h3, h4⟩ => by have := h4.1; omega)); exact ⟨by unfold ovR; rw [if_pos hcd, if_pos hln, e], X22⟩
        · -- else
          refine AW.skip ?_
          refine nrm_and ?_
          refine AW.rs ?_
          refine AL.val rfl (.inl rfl) (HV.mv rfl) ?_
          refine AL.val rfl (.inl rfl) (HV.as rfl) ?_
          refine AL.val rfl (.inl rfl) (HV.as rfl) ?_
          refine AL.nx ?_
          refine AW.ret ?_
          refine post_two rfl rfl rfl ?_ (.inr rfl)
          have hln : m.length = g.length := (by omega); obtain ⟨k, hk1, hk2, hk3, hk4, hk5⟩ := hsec.resolve_left (fun h => by have := h.1; omega); have e := secV_one (g := g) (v := m) (l := l) (k := k) ⟨by omega, hk2⟩ (fun j hj => by rw [hk3]; exact hk5 j (by have := hj.1; omega) hj.2); exact ⟨by unfold ovR; rw [if_pos hcd, if_pos hln, e, hk3], X22⟩

set_option maxRecDepth 100000 in
theorem secrets_ok {va vb : Value} {k m : List Int} {ok ok2 : Nat → Prop} (hr : RdK kI W H ok va k) (hr2 : RdK kI W H ok2 vb m) : ACalls Try.prog W 50 #[.agg #[va, vb]] H (fun r H' => r = .int .i64 (manyL m : Int) ∧ Ext H H') := by
  refine ACalls.of (args := [.agg #[va, vb]]) Try.func50 rfl rfl ?_
  have X0 := Ext.refl H
  have hm1 := hr.max
  have hm2 := hr2.max
  refine AW.rs ?_
  refine AL.w rfl (.inl rfl) (WV.bx rfl rfl) ?_
  rintro _ H4 ⟨b3, rfl, hx5, hn6, hb7⟩
  have o8 := Nat.le_trans X0.bd hn6
  have X9 := Ext.trans X0 hx5
  have X10 := Ext.refl H4
  refine AL.val rfl (.inl rfl) (HV.as rfl) ?_
  refine AL.nx ?_
  refine AW.rs ?_
  refine AL.val rfl (.inl rfl) (HV.as rfl) ?_
  refine AL.nx ?_
  refine AW.seq ?_
  refine AW.rs ?_
  refine AL.val rfl (.inl rfl) (HV.fa fl73_1 rfl) ?_
  refine AL.val rfl (.inl rfl) (HV.ld rfl va22 (at_cell_add hb7 rfl)) ?_
  refine AL.val rfl (.inl rfl) (HV.len Try.underlying22 rfl hr2.isSl) ?_
  refine AL.val rfl (.inl rfl) (HV.mv rfl) ?_
  refine AL.nx ?_
  refine AW.block ?_
  refine AW.loop (σ := Nat × Nat) (fun ⟨i, c⟩ => [(2, .int .i64 0), (7, vb), (8, .int .i64 (m.length : Int)), (3, .int .i64 (c : Int)), (9, .int .i64 (i : Int))]) (fun ⟨i, c⟩ H' => Ext H H' ∧ Ext H4 H' ∧ At W H' b3 ⟨73, [va, vb], 2⟩ ∧ i ≤ m.length ∧ c = manyL (m.take i) ∧ True) (fun ⟨i, c⟩ => m.length - i) (0, 0) ⟨X9, X10, hb7, Nat.zero_le _, rfl, trivial⟩ ⟨rfl, rfl, rfl, rfl, rfl, trivial⟩ ?_
  rintro ⟨i, c⟩ H11 ⟨X12, X13, hb14, hi, hc, _⟩
  have hcl := manyL_le (m.take i)
  rw [List.length_take, ← hc] at hcl
  refine AW.rs ?_
  refine AL.val rfl (.inl rfl) (HV.lti rfl rfl) ?_
  refine AL.nx ?_
  refine AW.seq ?_
  refine AW.ifd rfl (fun c15 => ?_) (fun c15 => ?_)
  · -- then
    refine AW.skip ?_
    refine nrm_and ?_
    refine AW.seq ?_
    refine AW.block ?_
    refine AW.rs ?_
    obtain ⟨p16, z17, cs18, hz19, hK20, hC21, hP22⟩ := RdK.ix (q := (i : Int)) hr2 sl22 (by omega) (by omega)
    obtain rfl : cs18 = [.int .i64 z17] := hK20
    refine AL.val rfl (.inl rfl) (hP22 rfl rfl) ?_
    refine AL.val rfl (.inl rfl) (HV.ld rfl va2 (cells_first (hC21.ext X12) rfl)) ?_
    refine AL.val rfl (.inl rfl) (HV.as rfl) ?_
    refine AL.nx ?_
    refine AW.rs ?_
    refine AL.val rfl (.inl rfl) (HV.mv rfl) ?_
    refine AL.val rfl (.inl rfl) (HV.gti rfl rfl) ?_
    refine AL.nx ?_
    refine AW.ifd rfl (fun c23 => ?_) (fun c23 => ?_)
    · -- then
      refine AW.reg ?_
      refine AL.val rfl (.inl rfl) (HV.mv rfl) ?_
      refine AL.val rfl (.inl rfl) (HV.add rfl rfl (by omega)) ?_
      refine AL.val rfl (.inl rfl) (HV.as rfl) ?_
      refine AL.nil ?_
      refine nrm_blk (nrm_and ?_)
      refine AW.reg ?_
      refine AL.val rfl (.inl rfl) (HV.add rfl rfl (by omega)) ?_
      refine AL.val rfl (.inl rfl) (HV.mv rfl) ?_
      refine AL.nil ?_
      refine nrm_and ?_
      exact ⟨(i + 1, c + 1), ⟨X12, X13, hb14, by omega, by rw [manyL_snoc (getq hz19 rfl), ← hc]; first | rw [if_pos (by assumption)] | rw [if_neg (by assumption)]; rfl, trivial⟩, by first | omega | (dsimp only; omega), ⟨rfl, rfl, rfl, rfl, rfl, trivial⟩⟩
    · -- else
      refine AW.skip ?_
      refine nrm_blk (nrm_and ?_)
      refine AW.reg ?_
      refine AL.val rfl (.inl rfl) (HV.add rfl rfl (by omega)) ?_
      refine AL.val rfl (.inl rfl) (HV.mv rfl) ?_
      refine AL.nil ?_
      refine nrm_and ?_
      exact ⟨(i + 1, c), ⟨X12, X13, hb14, by omega, by rw [manyL_snoc (getq hz19 rfl), ← hc]; first | rw [if_pos (by assumption)] | rw [if_neg (by assumption)]; rfl, trivial⟩, by first | omega | (dsimp only; omega), ⟨rfl, rfl, rfl, rfl, rfl, trivial⟩⟩
  · -- else
    refine AW.exit ?_
    refine ex_and (ex_and (ex_blk ?_))
    refine nrm_and ?_
    refine AW.rs ?_
    refine AL.val rfl (.inl rfl) (HV.mv rfl) ?_
    refine AL.val rfl (.inl rfl) (HV.as rfl) ?_
    refine AL.nx ?_
    refine AW.ret ?_
    refine post_one rfl rfl ?_ (.inr rfl)
    exact ⟨congrArg (Value.int .i64) (by rw [hc, List.take_of_length_le (by omega)]), X12⟩

set_option maxRecDepth 100000 in
theorem pos_ok (a : Int) : ACalls Try.prog W 52 #[.int .i64 a] H (fun r H' => r = .bool (decide (a > 0)) ∧ Ext H H') := by
  refine ACalls.of (args := [.int .i64 a]) Try.func52 rfl rfl ?_
  have X0 := Ext.refl H
  refine AW.rs ?_
  refine AL.val rfl (.inl rfl) (HV.as rfl) ?_
  refine AL.nx ?_
  refine AW.rs ?_
  refine AL.val rfl (.inl rfl) (HV.mv rfl) ?_
  refine AL.val rfl (.inl rfl) (HV.gti rfl rfl) ?_
  refine AL.val rfl (.inl rfl) (HV.as rfl) ?_
  refine AL.nx ?_
  refine AW.ret ?_
  refine post_one rfl rfl ?_ (.inr rfl)
  exact ⟨rfl, X0⟩

set_option maxRecDepth 100000 in
theorem ixPos_ok {v : Value} {l : List Int} {ok : Nat → Prop} (hr : RdK kI W H ok v l) : ACalls Try.prog W 51 #[v, (.func (.func 52) #[] #[])] H (fun r H' => (∃ j : Int, r = .int .i64 j ∧ (0 ≤ j → j.toNat < l.length ∧ 0 < l.getD j.toNat 0) ∧ (j < 0 → ∀ q, q < l.length → ¬ 0 < l.getD q 0)) ∧ Ext H H') := by
  refine ACalls.of (args := [v, (.func (.func 52) #[] #[])]) Try.func51 rfl rfl ?_
  have X0 := Ext.refl H
  have hm1 := hr.max
  refine AW.rs ?_
  refine AL.val rfl (.inl rfl) (HV.as rfl) ?_
  refine AL.nx ?_
  refine AW.seq ?_
  refine AW.rs ?_
  refine AL.val rfl (.inl rfl) (HV.mv rfl) ?_
  refine AL.val rfl (.inl rfl) (HV.len Try.underlying22 rfl hr.isSl) ?_
  refine AL.val rfl (.inl rfl) (HV.mv rfl) ?_
  refine AL.nx ?_
  refine AW.block ?_
  refine AW.loop (σ := Nat) (fun i => [(0, v), (1, (.func (.func 52) #[] #[])), (7, .int .i64 (l.length : Int)), (8, .int .i64 (i : Int))]) (fun i H' => Ext H H' ∧ i ≤ l.length ∧ (∀ q, q < i → ¬ 0 < l.getD q 0) ∧ True) (fun i => l.length - i) 0 ⟨X0, Nat.zero_le _, fun j hj => absurd hj (Nat.not_lt_zero _), trivial⟩ ⟨rfl, rfl, rfl, rfl, trivial⟩ ?_
  rintro i H2 ⟨X3, hi, he, _⟩
  refine AW.rs ?_
  refine AL.val rfl (.inl rfl) (HV.lti rfl rfl) ?_
  refine AL.nx ?_
  refine AW.seq ?_
  refine AW.ifd rfl (fun c4 => ?_) (fun c4 => ?_)
  · -- then
    refine AW.skip ?_
    refine nrm_and ?_
    refine AW.seq ?_
    refine AW.block ?_
    refine AW.rs ?_
    refine AL.val rfl (.inl rfl) (HV.mv rfl) ?_
    refine AL.val rfl (.inl rfl) (HV.as rfl) ?_
    refine AL.nx ?_
    refine AW.rs ?_
    refine AL.val rfl (.inl rfl) (HV.mv rfl) ?_
    refine AL.val rfl (.inl rfl) (HV.mv rfl) ?_
    refine AL.val rfl (.inl rfl) (HV.mv rfl) ?_
    obtain ⟨p5, z6, cs7, hz8, hK9, hC10, hP11⟩ := RdK.ix (q := (i : Int)) hr sl22 (by omega) (by omega)
    obtain rfl : cs7 = [.int .i64 z6] := hK9
    refine AL.val rfl (.inl rfl) (hP11 rfl rfl) ?_
    refine AL.val rfl (.inl rfl) (HV.ld rfl va2 (cells_first (hC10.ext X3) rfl)) ?_
    refine AL.w rfl (.inl rfl) (WV.callv fn52 rfl rfl (pos_ok (W := W) z6)) ?_
    rintro _ H12 ⟨rfl, hx13⟩
    have X14 := Ext.trans X3 hx13
    refine AL.nx ?_
    refine AW.ifd rfl (fun c15 => ?_) (fun c15 => ?_)
    · -- then
      refine AW.rs ?_
      refine AL.val rfl (.inl rfl) (HV.mv rfl) ?_
      refine AL.val rfl (.inl rfl) (HV.as rfl) ?_
      refine AL.nx ?_
      refine AW.ret ?_
      refine ret_blk (ret_and (ret_and (ret_blk (ret_and ?_))))
      refine post_one rfl rfl ?_ (.inr rfl)
      exact ⟨⟨_, rfl, fun h => ⟨by omega, by rw [gd hz8 (by omega)]; exact c15⟩, fun h => absurd h (by omega)⟩, X14⟩
    · -- else
      refine AW.skip ?_
      refine nrm_blk (nrm_and ?_)
      refine AW.reg ?_
      refine AL.val rfl (.inl rfl) (HV.add rfl rfl (by omega)) ?_
      refine AL.val rfl (.inl rfl) (HV.mv rfl) ?_
      refine AL.nil ?_
      refine nrm_and ?_
      exact ⟨i + 1, ⟨X14, by omega, fun q hq => by
      rcases Nat.lt_or_ge q i with h1 | h1
      · exact he q h1
      · obtain rfl : q = i := by omega
        rw [gd hz8 rfl]; exact c15, trivial⟩, by first | omega | (dsimp only; omega), ⟨rfl, rfl, rfl, rfl, trivial⟩⟩
  · -- else
    refine AW.exit ?_
    refine ex_and (ex_and (ex_blk ?_))
    refine nrm_and ?_
    refine AW.rs ?_
    refine AL.val rfl (.inl rfl) (HV.as rfl) ?_
    refine AL.nx ?_
    refine AW.ret ?_
    refine post_one rfl rfl ?_ (.inr rfl)
    exact ⟨⟨_, rfl, fun h => absurd h (by decide), fun h => fun q hq => he q (by omega)⟩, X3⟩

set_option maxRecDepth 100000 in
theorem implOV_ok {vs v : Value} {s : List Int} {l : List (Int × List Int)} {oks ok : Nat → Prop} (n : Int) (hs : RdK kI W H oks vs s) (hr : RdK (kP kI (kR kI)) W H ok v l) {vg vm : Value} {g m : List Int} {okg okm : Nat → Prop} (hgr : RdK kI W H okg vg g) (hmr : RdK kI W H okm vm m) : ACalls Try.prog W 19 #[.agg #[.int .i64 n, vs, v], vg, vm] H (fun r H' => r = .tuple #[.int .i64 (ovR n s l g m).1, .int .i64 (ovR n s l g m).2] ∧ Ext H H') := by
  refine ACalls.of (args := [.agg #[.int .i64 n, vs, v], vg, vm]) Try.func19 rfl rfl ?_
  have X0 := Ext.refl H
  have hm1 := hs.max
  have hm2 := hr.max
  have hm3 := hgr.max
  have hm4 := hmr.max
  refine AW.rs ?_
  refine AL.w rfl (.inl rfl) (WV.bx rfl rfl) ?_
  rintro _ H6 ⟨b5, rfl, hx7, hn8, hb9⟩
  have o10 := Nat.le_trans X0.bd hn8
  have X11 := Ext.trans X0 hx7
  have X12 := Ext.refl H6
  refine AL.val rfl (.inl rfl) (HV.as rfl) ?_
  refine AL.val rfl (.inl rfl) (HV.as rfl) ?_
  refine AL.nx ?_
  refine AW.rs ?_
  refine AL.val rfl (.inl rfl) (HV.lda (cs := [.int .i64 n, vs, v]) rfl va30 (at_cells hb9 rfl)) ?_
  refine AL.val rfl (.inl rfl) (HV.mv rfl) ?_
  refine AL.w rfl (.inl rfl) (WV.call fn47 rfl (tableCode_ok n (hs.ext X11) (hr.ext X11) (hgr.ext X11))) ?_
  rintro _ H13 ⟨rfl, hx14⟩
  have X15 := Ext.trans X11 hx14
  have X16 := Ext.trans X12 hx14
  have hb17 := hb9.ext hx14
  refine AL.val rfl (.inl rfl) (HV.as rfl) ?_
  refine AL.nx ?_
  refine AW.seq ?_
  refine AW.rs ?_
  refine AL.val rfl (.inl rfl) (HV.mv rfl) ?_
  refine AL.val rfl (.inl rfl) (HV.eqi rfl rfl) ?_
  refine AL.val rfl (.inl rfl) (HV.mv rfl) ?_
  by_cases c18 : (codeT n s l g) = 0
  · -- true
    have c18_ : decide ((codeT n s l g) = 0) = true := decide_eq_true c18
    rw [c18_]
    refine AL.val rfl (.inr ⟨_, _, _, rfl, rfl, rfl⟩) (HV.mv rfl) ?_
    refine AL.val rfl (.inr ⟨_, _, _, rfl, rfl, rfl⟩) (HV.len Try.underlying22 rfl hmr.isSl) ?_
    refine AL.val rfl (.inr ⟨_, _, _, rfl, rfl, rfl⟩) (HV.mv rfl) ?_
    refine AL.val rfl (.inr ⟨_, _, _, rfl, rfl, rfl⟩) (HV.len Try.underlying22 rfl hgr.isSl) ?_
    refine AL.val rfl (.inr ⟨_, _, _, rfl, rfl, rfl⟩) (HV.nei rfl rfl) ?_
    refine AL.val rfl (.inl rfl) (HV.pickT rfl rfl) ?_
    refine AL.nx ?_
    refine AW.ifd rfl (fun c19 => ?_) (fun c19 => ?_)
    · -- then
      refine AW.reg ?_
      refine AL.val rfl (.inl rfl) (HV.as rfl) ?_
      refine AL.nil ?_
      refine nrm_and ?_
      refine AW.seq ?_
      refine AW.rs ?_
      refine AL.val rfl (.inl rfl) (HV.mv rfl) ?_
      refine AL.val rfl (.inl rfl) (HV.nei rfl rfl) ?_
      refine AL.nx ?_
      refine AW.cond rfl (fun _ => ?_) (fun h => by cases h)
      refine AW.rs ?_
      refine AL.val rfl (.inl rfl) (HV.mv rfl) ?_
      refine AL.val rfl (.inl rfl) (HV.as rfl) ?_
      refine AL.val rfl (.inl rfl) (HV.as rfl) ?_
      refine AL.nx ?_
      refine AW.ret ?_
      refine ret_and ?_
      refine post_two rfl rfl rfl ?_ (.inr rfl)
      exact ⟨by unfold ovR; rw [if_pos (by assumption), if_neg (by intro h; rw [h] at c19; exact c19 rfl)], X15⟩
    · -- else
      refine AW.skip ?_
      refine nrm_and ?_
      refine AW.seq ?_
      refine AW.rs ?_
      refine AL.val rfl (.inl rfl) (HV.mv rfl) ?_
      refine AL.val rfl (.inl rfl) (HV.nei rfl rfl) ?_
      refine AL.nx ?_
      refine AW.ifd rfl (fun c21 => ?_) (fun c21 => ?_)
      · -- then
        refine AW.rs ?_
        refine AL.val rfl (.inl rfl) (HV.mv rfl) ?_
        refine AL.val rfl (.inl rfl) (HV.as rfl) ?_
        refine AL.val rfl (.inl rfl) (HV.as rfl) ?_
        refine AL.nx ?_
        refine AW.ret ?_
        refine ret_and ?_
        refine post_two rfl rfl rfl ?_ (.inr rfl)
        have hne := c21; exact ⟨by unfold ovR; rw [if_neg hne], X15⟩
      · -- else
        refine AW.skip ?_
        refine nrm_and ?_
        refine AW.seq ?_
        refine AW.seq ?_
        refine AW.draw' [0, 0, 2, 7, 15, 0] mixed (by rfl) ?_
        have hcd : codeT n s l g = 0 := (by omega)
        have hok := (code0.1 hcd).1
        have hgr_ := (code0.1 hcd).2
        have hs7 := hok.1.2.1
        have hg7 := ris_len hs7 hgr_
        have hin := grp_in hgr_
        have hse := see_all (g := g) hok
        have hsl := hse.len
        refine Dr.read 0 _ 26 _ rfl rfl rfl rfl rfl (RV.of (by intro _ _ h; cases h) (.inl rfl) (fun _ xd => HV.lda (cs := [.int .i64 n, vs, v]) rfl va30 (fun j u hu => rdc_ext xd ((at_cells hb17 rfl) j u hu)))) ?_
        refine Dr.read 1 _ 27 _ rfl rfl rfl rfl rfl (RV.of (by intro _ _ h; cases h) (.inl rfl) (fun _ xd => HV.mv rfl)) ?_
        refine Dr.read 5 _ 31 _ rfl rfl rfl rfl rfl (RV.of (by intro _ _ h; cases h) (.inl rfl) (fun _ xd => HV.mv rfl)) ?_
        refine Dr.eff 2 _ _ rfl (by intro d h; cases h; exact ⟨rfl, rfl⟩) rfl rfl rfl (EC.of (by intro _ _ h; cases h) (.inl rfl) (WV.call fn49 rfl (crowdOf_ok (hgr.ext X15) (fun x hx => by have := hin x hx; omega)))) (fun v H' h => .inl (h.2)) ?_
        rintro _ H22 ⟨rfl, hx23⟩
        rw [(bits_nat hs7 hgr_).2.1]
        have X24 := Ext.trans X15 hx23
        have X25 := Ext.trans X16 hx23
        have hb26 := hb17.ext hx23
        refine Dr.eff 3 _ _ rfl (by intro d h; cases h; exact ⟨rfl, rfl⟩) rfl rfl rfl (EC.of (by intro _ _ h; cases h) (.inl rfl) (WV.call fn48 rfl (sights_ok (g := g) n (hs.ext X24) (hr.ext X24) (bitN g) (bit_128 hs7 hgr_) (grp_of hs7 hgr_) hok hin))) (fun v H' h => .inl (h.1)) ?_
        rintro v27 H28 ⟨hx29, ho30⟩
        have X32 := Ext.trans X24 hx29
        have X33 := Ext.trans X25 hx29
        have hb34 := hb26.ext hx29
        have X35 := Ext.refl H28
        have hr31 := ho30.rd.le (le_X (le_OR (Le.refl _)) (le_OR (Le.refl _)))
        refine Dr.read 4 _ 30 _ rfl rfl rfl rfl rfl (RV.of (by intro _ _ h; cases h) (.inl rfl) (fun _ xd => HV.len Try.underlying67 rfl hr31.isSl)) ?_
        refine Dr.fin rfl ?_
        refine nrm_and ?_
        refine AW.block ?_
        refine AW.loop (σ := Nat) (fun i => [(2, vm), (29, v27), (30, .int .i64 ((seeV n g l l.length).length : Int)), (31, .int .i64 (i : Int))]) (fun i H' => Ext H H' ∧ Ext H6 H' ∧ Ext H28 H' ∧ At W H' b5 ⟨30, [.int .i64 n, vs, v], 3⟩ ∧ i ≤ (seeV n g l l.length).length ∧ (∀ k, k < i → ((seeV n g l l.length).getD k ([], [])).1 ≠ m) ∧ True) (fun i => (seeV n g l l.length).length - i) 0 ⟨X32, X33, X35, hb34, Nat.zero_le _, fun j hj => absurd hj (Nat.not_lt_zero _), trivial⟩ ⟨rfl, rfl, rfl, rfl, trivial⟩ ?_
        rintro i H36 ⟨X37, X38, X39, hb40, hi, hno, _⟩
        refine AW.rs ?_
        refine AL.val rfl (.inl rfl) (HV.lti rfl rfl) ?_
        refine AL.nx ?_
        refine AW.seq ?_
        refine AW.ifd rfl (fun c41 => ?_) (fun c41 => ?_)
        · -- then
          refine AW.skip ?_
          refine nrm_and ?_
          refine AW.seq ?_
          refine AW.block ?_
          refine AW.rs ?_
          obtain ⟨p42, z43, cs44, hz45, hK46, hC47, hP48⟩ := RdK.ix (q := (i : Int)) hr31 sl67 (by omega) (by omega)
          obtain ⟨cs49, cs50, rfl, hK51, hK52⟩ := hK46
          obtain ⟨v53, rfl, hr54⟩ := hK51
          have hm55 := hr54.max
          obtain ⟨v56, rfl, hr57⟩ := hK52
          have hm58 := hr57.max
          refine AL.val rfl (.inl rfl) (hP48 rfl rfl) ?_
          refine AL.val rfl (.inl rfl) (HV.lda (cs := [v53, v56]) rfl va73 (hC47.ext X39)) ?_
          refine AL.w rfl (.inl rfl) (WV.al ze73 rfl) ?_
          rintro _ H60 ⟨b59, rfl, hx61, hn62, hb63⟩
          have o64 := Nat.le_trans X37.bd hn62
          have o65 := Nat.le_trans X38.bd hn62
          have o66 := Nat.le_trans X39.bd hn62
          have ne67 : b5 ≠ b59 := by have := hb40.lt; omega
          have X68 := Ext.trans X37 hx61
          have X69 := Ext.trans X38 hx61
          have X70 := Ext.trans X39 hx61
          have hb71 := hb40.ext hx61
          have X72 := Ext.refl H60
          refine AL.w0 (.inl rfl) (WV.st rfl rfl va73 rfl hb63 (Nat.le_of_ble_eq_true rfl) (one_cons (sl_one1 (hr54.ext X70).isSl) (one_cons (sl_one1 (hr57.ext X70).isSl) one_nil))) ?_
          rintro _ H73 ⟨hx74, hb75⟩
          have X76 := Ext.thru X68 hx74 (fun z_ hz_ => by rw [hz_]; exact o64)
          have X77 := Ext.thru X69 hx74 (fun z_ hz_ => by rw [hz_]; exact o65)
          have X78 := Ext.thru X70 hx74 (fun z_ hz_ => by rw [hz_]; exact o66)
          have hb80 := hb71.but hx74 ne67
          have hb81 : At W H73 b59 ⟨73, [v53, v56], 2⟩ := hb75
          refine AL.nx ?_
          refine AW.seq ?_
          refine AW.rs ?_
          refine AL.val rfl (.inl rfl) (HV.fa fl73_0 rfl) ?_
          refine AL.val rfl (.inl rfl) (HV.ld rfl va22 (at_cell hb81 rfl)) ?_
          refine AL.val rfl (.inl rfl) (HV.mv rfl) ?_
          refine AL.w rfl (.inl rfl) (WV.call fn38 rfl (eqI_ok (hr54.ext X78) (hmr.ext X76))) ?_
          rintro _ H82 ⟨rfl, hx83⟩
          have X84 := Ext.trans X76 hx83
          have X85 := Ext.trans X77 hx83
          have X86 := Ext.trans X78 hx83
          have hb87 := hb80.ext hx83
          have hb88 := hb81.ext hx83
          refine AL.val rfl (.inl rfl) (HV.not rfl) ?_
          refine AL.nx ?_
          refine AW.ifn rfl (fun c89 => ?_) (fun c89 => ?_)
          · -- then
            refine AW.exit ?_
            refine ex_and (ex_blk ?_)
            refine nrm_and ?_
            refine AW.reg ?_
            refine AL.val rfl (.inl rfl) (HV.add rfl rfl (by omega)) ?_
            refine AL.val rfl (.inl rfl) (HV.mv rfl) ?_
            refine AL.nil ?_
            refine nrm_and ?_
            exact ⟨i + 1, ⟨X84, X85, X86, hb87, by omega, fun k hk => (Nat.lt_or_ge k i).elim (hno k) (fun h1 => by rw [show k = i by omega, gd hz45 rfl]; simpa using c89), trivial⟩, by first | omega | (dsimp only; omega), ⟨rfl, rfl, rfl, rfl, trivial⟩⟩
          · -- else
            refine AW.skip ?_
            refine nrm_and ?_
            refine AW.seq ?_
            refine AW.rs ?_
            refine AL.val rfl (.inl rfl) (HV.lda (cs := [v53, v56]) rfl va73 (at_cells hb88 rfl)) ?_
            refine AL.w rfl (.inl rfl) (WV.call fn50 rfl (secrets_ok (hr54.ext X86) (hr57.ext X86))) ?_
            rintro _ H90 ⟨rfl, hx91⟩
            have X92 := Ext.trans X84 hx91
            have X93 := Ext.trans X85 hx91
            have X94 := Ext.trans X86 hx91
            have hb95 := hb87.ext hx91
            have hb96 := hb88.ext hx91
            refine AL.val rfl (.inl rfl) (HV.gti rfl rfl) ?_
            refine AL.nx ?_
            refine AW.ifd rfl (fun c97 => ?_) (fun c97 => ?_)
            · -- then
              refine AW.rs ?_
              refine AL.val rfl (.inl rfl) (HV.as rfl) ?_
              refine AL.val rfl (.inl rfl) (HV.as rfl) ?_
              refine AL.nx ?_
              refine AW.ret ?_
              refine ret_and (ret_blk (ret_and (ret_and (ret_blk (ret_and ?_)))))
              refine post_two rfl rfl rfl ?_ (.inr rfl)
              have hln : m.length = g.length := (by omega); have hvm : z43.1 = m := (by simpa using c89); have hmem : (m, z43.2) ∈ seeV n g l l.length := (by rw [← hvm]; exact List.mem_of_getElem? hz45); have e := (secV_see (v := m) (okT_rows hok) hse).2.1 _ hmem (by have := c97; omega); exact ⟨by unfold ovR; rw [if_pos hcd, if_pos hln, e], X92⟩
            · -- else
              refine AW.skip ?_
              refine nrm_and ?_
              refine AW.rs ?_
              refine AL.val rfl (.inl rfl) (HV.fa fl73_1 rfl) ?_
              refine AL.val rfl (.inl rfl) (HV.ld rfl va22 (at_cell_add hb96 rfl)) ?_
              refine AL.w rfl (.inl rfl) (WV.call fn51 rfl (ixPos_ok (hr57.ext X94))) ?_
              rintro _ H98 ⟨⟨q100, rfl, he101, he102⟩, hx99⟩
              have X103 := Ext.trans X92 hx99
              have X104 := Ext.trans X93 hx99
              have X105 := Ext.trans X94 hx99
              have hb106 := hb95.ext hx99
              have hb107 := hb96.ext hx99
              refine AL.val rfl (.inl rfl) (HV.as rfl) ?_
              refine AL.val rfl (.inl rfl) (HV.as rfl) ?_
              refine AL.nx ?_
              refine AW.ret ?_
              refine ret_blk (ret_and (ret_and (ret_blk (ret_and ?_))))
              refine post_two rfl rfl rfl ?_ (.inr rfl)
              have hln : m.length = g.length := (by omega); have hvm : z43.1 = m := (by simpa using c89); have hmem : (m, z43.2) ∈ seeV n g l l.length := (by rw [← hvm]; exact List.mem_of_getElem? hz45); have hnn := fun y hy => (see_nn hok _ hmem y hy).1; have hmn : manyL z43.2 ≤ 1 := (by have := c97; omega); obtain ⟨kk, hk1, hk2⟩ := hse.ex _ hmem; have hsb := okT_rows hok kk hk1; have hcl : z43.2.length = n.toNat := hse.cl (m, z43.2) hmem; have hpz : 0 < z43.2.getD (l.getD kk (0, [])).1.toNat 0 := (by have q := hse.cnt _ hmem (l.getD kk (0, [])).1.toNat (by omega); simp only at q; rw [q]; exact (cntV_pos (Nat.le_refl _)).2 ⟨kk, hk1, hk2, rfl⟩); have hq0 : 0 ≤ q100 := (by rcases Int.lt_or_le q100 0 with h | h; (exact absurd hpz (he102 h _ (by omega))); exact h); have e := (secV_see (v := m) (okT_rows hok) hse).2.2 _ _ hmem hmn (he101 hq0).1 (he101 hq0).2; exact ⟨by unfold ovR; rw [if_pos hcd, if_pos hln, e]; exact congrArg (fun z => Value.tuple #[.int .i64 z, .int .i64 0]) (by omega), X103⟩
        · -- else
          refine AW.exit ?_
          refine ex_and (ex_and (ex_blk ?_))
          refine nrm_and ?_
          refine AW.rs ?_
          refine AL.val rfl (.inl rfl) (HV.as rfl) ?_
          refine AL.val rfl (.inl rfl) (HV.as rfl) ?_
          refine AL.nx ?_
          refine AW.ret ?_
          refine post_two rfl rfl rfl ?_ (.inr rfl)
          have hln : m.length = g.length := (by omega); have e := (secV_see (v := m) (okT_rows hok) hse).1 (fun e he h => by obtain ⟨k, hk, rfl⟩ := List.getElem_of_mem he; exact hno k (by omega) (by simpa [hk] using h)); exact ⟨by unfold ovR; rw [if_pos hcd, if_pos hln, e], X37⟩
  · -- false
    have c18_ : decide ((codeT n s l g) = 0) = false := decide_eq_false c18
    rw [c18_]
    refine AL.off rfl rfl (by decide) rfl ?_
    refine AL.off rfl rfl (by decide) rfl ?_
    refine AL.off rfl rfl (by decide) rfl ?_
    refine AL.off rfl rfl (by decide) rfl ?_
    refine AL.off rfl rfl (by decide) rfl ?_
    refine AL.val rfl (.inl rfl) (HV.pickF rfl rfl) ?_
    refine AL.nx ?_
    refine AW.cond rfl (fun h => by cases h) (fun _ => ?_)
    refine AW.skip ?_
    refine nrm_and ?_
    refine AW.seq ?_
    refine AW.rs ?_
    refine AL.val rfl (.inl rfl) (HV.mv rfl) ?_
    refine AL.val rfl (.inl rfl) (HV.nei rfl rfl) ?_
    refine AL.nx ?_
    refine AW.ifd rfl (fun c109 => ?_) (fun c109 => ?_)
    · -- then
      refine AW.rs ?_
      refine AL.val rfl (.inl rfl) (HV.mv rfl) ?_
      refine AL.val rfl (.inl rfl) (HV.as rfl) ?_
      refine AL.val rfl (.inl rfl) (HV.as rfl) ?_
      refine AL.nx ?_
      refine AW.ret ?_
      refine ret_and ?_
      refine post_two rfl rfl rfl ?_ (.inr rfl)
      have hne := c109; exact ⟨by unfold ovR; rw [if_neg hne], X15⟩
    · -- else
      refine AW.skip ?_
      refine nrm_and ?_
      refine AW.seq ?_
      refine AW.seq ?_
      refine AW.draw' [0, 0, 2, 7, 15, 0] mixed (by rfl) ?_
      have hcd : codeT n s l g = 0 := (by omega)
      have hok := (code0.1 hcd).1
      have hgr_ := (code0.1 hcd).2
      have hs7 := hok.1.2.1
      have hg7 := ris_len hs7 hgr_
      have hin := grp_in hgr_
      have hse := see_all (g := g) hok
      have hsl := hse.len
      refine Dr.read 0 _ 26 _ rfl rfl rfl rfl rfl (RV.of (by intro _ _ h; cases h) (.inl rfl) (fun _ xd => HV.lda (cs := [.int .i64 n, vs, v]) rfl va30 (fun j u hu => rdc_ext xd ((at_cells hb17 rfl) j u hu)))) ?_
      refine Dr.read 1 _ 27 _ rfl rfl rfl rfl rfl (RV.of (by intro _ _ h; cases h) (.inl rfl) (fun _ xd => HV.mv rfl)) ?_
      refine Dr.read 5 _ 31 _ rfl rfl rfl rfl rfl (RV.of (by intro _ _ h; cases h) (.inl rfl) (fun _ xd => HV.mv rfl)) ?_
      refine Dr.eff 2 _ _ rfl (by intro d h; cases h; exact ⟨rfl, rfl⟩) rfl rfl rfl (EC.of (by intro _ _ h; cases h) (.inl rfl) (WV.call fn49 rfl (crowdOf_ok (hgr.ext X15) (fun x hx => by have := hin x hx; omega)))) (fun v H' h => .inl (h.2)) ?_
      rintro _ H110 ⟨rfl, hx111⟩
      rw [(bits_nat hs7 hgr_).2.1]
      have X112 := Ext.trans X15 hx111
      have X113 := Ext.trans X16 hx111
      have hb114 := hb17.ext hx111
      refine Dr.eff 3 _ _ rfl (by intro d h; cases h; exact ⟨rfl, rfl⟩) rfl rfl rfl (EC.of (by intro _ _ h; cases h) (.inl rfl) (WV.call fn48 rfl (sights_ok (g := g) n (hs.ext X112) (hr.ext X112) (bitN g) (bit_128 hs7 hgr_) (grp_of hs7 hgr_) hok hin))) (fun v H' h => .inl (h.1)) ?_
      rintro v115 H116 ⟨hx117, ho118⟩
      have X120 := Ext.trans X112 hx117
      have X121 := Ext.trans X113 hx117
      have hb122 := hb114.ext hx117
      have X123 := Ext.refl H116
      have hr119 := ho118.rd.le (le_X (le_OR (Le.refl _)) (le_OR (Le.refl _)))
      refine Dr.read 4 _ 30 _ rfl rfl rfl rfl rfl (RV.of (by intro _ _ h; cases h) (.inl rfl) (fun _ xd => HV.len Try.underlying67 rfl hr119.isSl)) ?_
      refine Dr.fin rfl ?_
      refine nrm_and ?_
      refine AW.block ?_
      refine AW.loop (σ := Nat) (fun i => [(2, vm), (29, v115), (30, .int .i64 ((seeV n g l l.length).length : Int)), (31, .int .i64 (i : Int))]) (fun i H' => Ext H H' ∧ Ext H6 H' ∧ Ext H116 H' ∧ At W H' b5 ⟨30, [.int .i64 n, vs, v], 3⟩ ∧ i ≤ (seeV n g l l.length).length ∧ (∀ k, k < i → ((seeV n g l l.length).getD k ([], [])).1 ≠ m) ∧ True) (fun i => (seeV n g l l.length).length - i) 0 ⟨X120, X121, X123, hb122, Nat.zero_le _, fun j hj => absurd hj (Nat.not_lt_zero _), trivial⟩ ⟨rfl, rfl, rfl, rfl, trivial⟩ ?_
      rintro i H124 ⟨X125, X126, X127, hb128, hi, hno, _⟩
      refine AW.rs ?_
      refine AL.val rfl (.inl rfl) (HV.lti rfl rfl) ?_
      refine AL.nx ?_
      refine AW.seq ?_
      refine AW.ifd rfl (fun c129 => ?_) (fun c129 => ?_)
      · -- then
        refine AW.skip ?_
        refine nrm_and ?_
        refine AW.seq ?_
        refine AW.block ?_
        refine AW.rs ?_
        obtain ⟨p130, z131, cs132, hz133, hK134, hC135, hP136⟩ := RdK.ix (q := (i : Int)) hr119 sl67 (by omega) (by omega)
        obtain ⟨cs137, cs138, rfl, hK139, hK140⟩ := hK134
        obtain ⟨v141, rfl, hr142⟩ := hK139
        have hm143 := hr142.max
        obtain ⟨v144, rfl, hr145⟩ := hK140
        have hm146 := hr145.max
        refine AL.val rfl (.inl rfl) (hP136 rfl rfl) ?_
        refine AL.val rfl (.inl rfl) (HV.lda (cs := [v141, v144]) rfl va73 (hC135.ext X127)) ?_
        refine AL.w rfl (.inl rfl) (WV.al ze73 rfl) ?_
        rintro _ H148 ⟨b147, rfl, hx149, hn150, hb151⟩
        have o152 := Nat.le_trans X125.bd hn150
        have o153 := Nat.le_trans X126.bd hn150
        have o154 := Nat.le_trans X127.bd hn150
        have ne155 : b5 ≠ b147 := by have := hb128.lt; omega
        have X156 := Ext.trans X125 hx149
        have X157 := Ext.trans X126 hx149
        have X158 := Ext.trans X127 hx149
        have hb159 := hb128.ext hx149
        have X160 := Ext.refl H148
        refine AL.w0 (.inl rfl) (WV.st rfl rfl va73 rfl hb151 (Nat.le_of_ble_eq_true rfl) (one_cons (sl_one1 (hr142.ext X158).isSl) (one_cons (sl_one1 (hr145.ext X158).isSl) one_nil))) ?_
        rintro _ H161 ⟨hx162, hb163⟩
        have X164 := Ext.thru X156 hx162 (fun z_ hz_ => by rw [hz_]; exact o152)
        have X165 := Ext.thru X157 hx162 (fun z_ hz_ => by rw [hz_]; exact o153)
        have X166 := Ext.thru X158 hx162 (fun z_ hz_ => by rw [hz_]; exact o154)
        have hb168 := hb159.but hx162 ne155
        have hb169 : At W H161 b147 ⟨73, [v141, v144], 2⟩ := hb163
        refine AL.nx ?_
        refine AW.seq ?_
        refine AW.rs ?_
        refine AL.val rfl (.inl rfl) (HV.fa fl73_0 rfl) ?_
        refine AL.val rfl (.inl rfl) (HV.ld rfl va22 (at_cell hb169 rfl)) ?_
        refine AL.val rfl (.inl rfl) (HV.mv rfl) ?_
        refine AL.w rfl (.inl rfl) (WV.call fn38 rfl (eqI_ok (hr142.ext X166) (hmr.ext X164))) ?_
        rintro _ H170 ⟨rfl, hx171⟩
        have X172 := Ext.trans X164 hx171
        have X173 := Ext.trans X165 hx171
        have X174 := Ext.trans X166 hx171
        have hb175 := hb168.ext hx171
        have hb176 := hb169.ext hx171
        refine AL.val rfl (.inl rfl) (HV.not rfl) ?_
        refine AL.nx ?_
        refine AW.ifn rfl (fun c177 => ?_) (fun c177 => ?_)
        · -- then
          refine AW.exit ?_
          refine ex_and (ex_blk ?_)
          refine nrm_and ?_
          refine AW.reg ?_
          refine AL.val rfl (.inl rfl) (HV.add rfl rfl (by omega)) ?_
          refine AL.val rfl (.inl rfl) (HV.mv rfl) ?_
          refine AL.nil ?_
          refine nrm_and ?_
          exact ⟨i + 1, ⟨X172, X173, X174, hb175, by omega, fun k hk => (Nat.lt_or_ge k i).elim (hno k) (fun h1 => by rw [show k = i by omega, gd hz133 rfl]; simpa using c177), trivial⟩, by first | omega | (dsimp only; omega), ⟨rfl, rfl, rfl, rfl, trivial⟩⟩
        · -- else
          refine AW.skip ?_
          refine nrm_and ?_
          refine AW.seq ?_
          refine AW.rs ?_
          refine AL.val rfl (.inl rfl) (HV.lda (cs := [v141, v144]) rfl va73 (at_cells hb176 rfl)) ?_
          refine AL.w rfl (.inl rfl) (WV.call fn50 rfl (secrets_ok (hr142.ext X174) (hr145.ext X174))) ?_
          rintro _ H178 ⟨rfl, hx179⟩
          have X180 := Ext.trans X172 hx179
          have X181 := Ext.trans X173 hx179
          have X182 := Ext.trans X174 hx179
          have hb183 := hb175.ext hx179
          have hb184 := hb176.ext hx179
          refine AL.val rfl (.inl rfl) (HV.gti rfl rfl) ?_
          refine AL.nx ?_
          refine AW.ifd rfl (fun c185 => ?_) (fun c185 => ?_)
          · -- then
            refine AW.rs ?_
            refine AL.val rfl (.inl rfl) (HV.as rfl) ?_
            refine AL.val rfl (.inl rfl) (HV.as rfl) ?_
            refine AL.nx ?_
            refine AW.ret ?_
            refine ret_and (ret_blk (ret_and (ret_and (ret_blk (ret_and ?_)))))
            refine post_two rfl rfl rfl ?_ (.inr rfl)
            have hln : m.length = g.length := (by omega); have hvm : z131.1 = m := (by simpa using c177); have hmem : (m, z131.2) ∈ seeV n g l l.length := (by rw [← hvm]; exact List.mem_of_getElem? hz133); have e := (secV_see (v := m) (okT_rows hok) hse).2.1 _ hmem (by have := c185; omega); exact ⟨by unfold ovR; rw [if_pos hcd, if_pos hln, e], X180⟩
          · -- else
            refine AW.skip ?_
            refine nrm_and ?_
            refine AW.rs ?_
            refine AL.val rfl (.inl rfl) (HV.fa fl73_1 rfl) ?_
            refine AL.val rfl (.inl rfl) (HV.ld rfl va22 (at_cell_add hb184 rfl)) ?_
            refine AL.w rfl (.inl rfl) (WV.call fn51 rfl (ixPos_ok (hr145.ext X182))) ?_
            rintro _ H186 ⟨⟨q188, rfl, he189, he190⟩, hx187⟩
            have X191 := Ext.trans X180 hx187
            have X192 := Ext.trans X181 hx187
            have X193 := Ext.trans X182 hx187
            have hb194 := hb183.ext hx187
            have hb195 := hb184.ext hx187
            refine AL.val rfl (.inl rfl) (HV.as rfl) ?_
            refine AL.val rfl (.inl rfl) (HV.as rfl) ?_
            refine AL.nx ?_
            refine AW.ret ?_
            refine ret_blk (ret_and (ret_and (ret_blk (ret_and ?_))))
            refine post_two rfl rfl rfl ?_ (.inr rfl)
            have hln : m.length = g.length := (by omega); have hvm : z131.1 = m := (by simpa using c177); have hmem : (m, z131.2) ∈ seeV n g l l.length := (by rw [← hvm]; exact List.mem_of_getElem? hz133); have hnn := fun y hy => (see_nn hok _ hmem y hy).1; have hmn : manyL z131.2 ≤ 1 := (by have := c185; omega); obtain ⟨kk, hk1, hk2⟩ := hse.ex _ hmem; have hsb := okT_rows hok kk hk1; have hcl : z131.2.length = n.toNat := hse.cl (m, z131.2) hmem; have hpz : 0 < z131.2.getD (l.getD kk (0, [])).1.toNat 0 := (by have q := hse.cnt _ hmem (l.getD kk (0, [])).1.toNat (by omega); simp only at q; rw [q]; exact (cntV_pos (Nat.le_refl _)).2 ⟨kk, hk1, hk2, rfl⟩); have hq0 : 0 ≤ q188 := (by rcases Int.lt_or_le q188 0 with h | h; (exact absurd hpz (he190 h _ (by omega))); exact h); have e := (secV_see (v := m) (okT_rows hok) hse).2.2 _ _ hmem hmn (he189 hq0).1 (he189 hq0).2; exact ⟨by unfold ovR; rw [if_pos hcd, if_pos hln, e]; exact congrArg (fun z => Value.tuple #[.int .i64 z, .int .i64 0]) (by omega), X191⟩
      · -- else
        refine AW.exit ?_
        refine ex_and (ex_and (ex_blk ?_))
        refine nrm_and ?_
        refine AW.rs ?_
        refine AL.val rfl (.inl rfl) (HV.as rfl) ?_
        refine AL.val rfl (.inl rfl) (HV.as rfl) ?_
        refine AL.nx ?_
        refine AW.ret ?_
        refine post_two rfl rfl rfl ?_ (.inr rfl)
        have hln : m.length = g.length := (by omega); have e := (secV_see (v := m) (okT_rows hok) hse).1 (fun e he h => by obtain ⟨k, hk, rfl⟩ := List.getElem_of_mem he; exact hno k (by omega) (by simpa [hk] using h)); exact ⟨by unfold ovR; rw [if_pos hcd, if_pos hln, e], X125⟩

set_option maxRecDepth 100000 in
theorem law_OpenView {vs v : Value} {s : List Int} {l : List (Int × List Int)} {oks ok : Nat → Prop} (n : Int) (hs : RdK kI W H oks vs s) (hr : RdK (kP kI (kR kI)) W H ok v l) {vg vm : Value} {g m : List Int} {okg okm : Nat → Prop} (hgr : RdK kI W H okg vg g) (hmr : RdK kI W H okm vm m) : ACalls Try.prog W 5 #[.agg #[.int .i64 n, vs, v], vg, vm] H (fun r H' => r = .bool true ∧ Ext H H') := by
  refine ACalls.of (args := [.agg #[.int .i64 n, vs, v], vg, vm]) Try.func5 rfl rfl ?_
  have X0 := Ext.refl H
  have hm1 := hs.max
  have hm2 := hr.max
  have hm3 := hgr.max
  have hm4 := hmr.max
  refine AW.rs ?_
  refine AL.w rfl (.inl rfl) (WV.bx rfl rfl) ?_
  rintro _ H6 ⟨b5, rfl, hx7, hn8, hb9⟩
  have o10 := Nat.le_trans X0.bd hn8
  have X11 := Ext.trans X0 hx7
  have X12 := Ext.refl H6
  refine AL.val rfl (.inl rfl) (HV.as rfl) ?_
  refine AL.nx ?_
  refine AW.seq ?_
  refine AW.rs ?_
  refine AL.val rfl (.inl rfl) (HV.mv rfl) ?_
  refine AL.val rfl (.inl rfl) (HV.len Try.underlying22 rfl hgr.isSl) ?_
  refine AL.val rfl (.inl rfl) (HV.gti rfl rfl) ?_
  refine AL.nx ?_
  refine AW.ifd rfl (fun c13 => ?_) (fun c13 => ?_)
  · -- then
    refine AW.rs ?_
    refine AL.val rfl (.inl rfl) (HV.as rfl) ?_
    refine AL.nx ?_
    refine AW.ret ?_
    refine ret_and ?_
    refine post_one rfl rfl ?_ (.inr rfl)
    exact ⟨rfl, X11⟩
  · -- else
    refine AW.skip ?_
    refine nrm_and ?_
    refine AW.seq ?_
    refine AW.rs ?_
    refine AL.val rfl (.inl rfl) (HV.mv rfl) ?_
    refine AL.val rfl (.inl rfl) (HV.len Try.underlying22 rfl hmr.isSl) ?_
    refine AL.val rfl (.inl rfl) (HV.gti rfl rfl) ?_
    refine AL.nx ?_
    refine AW.ifd rfl (fun c14 => ?_) (fun c14 => ?_)
    · -- then
      refine AW.rs ?_
      refine AL.val rfl (.inl rfl) (HV.as rfl) ?_
      refine AL.nx ?_
      refine AW.ret ?_
      refine ret_and ?_
      refine post_one rfl rfl ?_ (.inr rfl)
      exact ⟨rfl, X11⟩
    · -- else
      refine AW.skip ?_
      refine nrm_and ?_
      refine AW.rs ?_
      refine AL.val rfl (.inl rfl) (HV.as rfl) ?_
      refine AL.nx ?_
      refine AW.rs ?_
      refine AL.val rfl (.inl rfl) (HV.lda (cs := [.int .i64 n, vs, v]) rfl va25 (at_cells hb9 rfl)) ?_
      refine AL.val rfl (.inl rfl) (HV.mv rfl) ?_
      refine AL.w rfl (.inl rfl) (WV.call fn10 rfl (szTable_ok n (hs.ext X11) (hr.ext X11) 1048576 (by omega))) ?_
      rintro _ H15 ⟨⟨q17, rfl, ha18, hb19, he20⟩, hx16⟩
      have X21 := Ext.trans X11 hx16
      have X22 := Ext.trans X12 hx16
      have hb23 := hb9.ext hx16
      refine AL.val rfl (.inl rfl) (HV.as rfl) ?_
      refine AL.nx ?_
      refine AW.seq ?_
      refine AW.rs ?_
      refine AL.val rfl (.inl rfl) (HV.mv rfl) ?_
      refine AL.val rfl (.inl rfl) (HV.lti rfl rfl) ?_
      refine AL.nx ?_
      refine AW.ifd rfl (fun c24 => ?_) (fun c24 => ?_)
      · -- then
        refine AW.rs ?_
        refine AL.val rfl (.inl rfl) (HV.as rfl) ?_
        refine AL.nx ?_
        refine AW.ret ?_
        refine ret_and ?_
        refine post_one rfl rfl ?_ (.inr rfl)
        exact ⟨rfl, X21⟩
      · -- else
        refine AW.skip ?_
        refine nrm_and ?_
        refine AW.rs ?_
        refine AL.val rfl (.inl rfl) (HV.lda (cs := [.int .i64 n, vs, v]) rfl va25 (at_cells hb23 rfl)) ?_
        refine AL.w rfl (.inl rfl) (WV.call fn12 rfl (toTable_ok n (hs.ext X21) (hr.ext X21) (he20 (by omega)).1 (he20 (by omega)).2)) ?_
        rintro _ H27 ⟨⟨u25, v26, rfl, ho29, ho30⟩, hx28⟩
        have X33 := Ext.trans X21 hx28
        have X34 := Ext.trans X22 hx28
        have hb35 := hb23.ext hx28
        have X36 := Ext.refl H27
        have hr31 := ho29.rd
        have hr32 := ho30.rd.le (le_P (Le.refl _) (le_OR (Le.refl _)))
        refine AL.val rfl (.inl rfl) (HV.mv rfl) ?_
        refine AL.w rfl (.inl rfl) (WV.call fn18 rfl (toS_ok (hgr.ext X33) (by omega))) ?_
        rintro v37 H38 ⟨hx39, ho40⟩
        have X42 := Ext.trans X33 hx39
        have X43 := Ext.trans X34 hx39
        have X44 := Ext.trans X36 hx39
        have hb45 := hb35.ext hx39
        have X46 := Ext.refl H38
        have hr41 := ho40.rd
        refine AL.val rfl (.inl rfl) (HV.mv rfl) ?_
        refine AL.w rfl (.inl rfl) (WV.call fn18 rfl (toS_ok (hmr.ext X42) (by omega))) ?_
        rintro v47 H48 ⟨hx49, ho50⟩
        have X52 := Ext.trans X42 hx49
        have X53 := Ext.trans X43 hx49
        have X54 := Ext.trans X44 hx49
        have X55 := Ext.trans X46 hx49
        have hb56 := hb45.ext hx49
        have X57 := Ext.refl H48
        have hr51 := ho50.rd
        refine AL.w rfl (.inl rfl) (WV.call fn17 rfl (specOV_ok n (hr31.ext X54) (hr32.ext X54) (hr41.ext X55) hr51)) ?_
        rintro _ H58 ⟨rfl, hx59⟩
        have X60 := Ext.trans X52 hx59
        have X61 := Ext.trans X53 hx59
        have X62 := Ext.trans X54 hx59
        have X63 := Ext.trans X55 hx59
        have X64 := Ext.trans X57 hx59
        have hb65 := hb56.ext hx59
        refine AL.val rfl (.inl rfl) (HV.mv rfl) ?_
        refine AL.val rfl (.inl rfl) (HV.ex rfl rfl) ?_
        refine AL.val rfl (.inl rfl) (HV.ex rfl rfl) ?_
        refine AL.val rfl (.inl rfl) (HV.as rfl) ?_
        refine AL.val rfl (.inl rfl) (HV.as rfl) ?_
        refine AL.nx ?_
        refine AW.rs ?_
        refine AL.val rfl (.inl rfl) (HV.lda (cs := [.int .i64 n, vs, v]) rfl va25 (at_cells hb65 rfl)) ?_
        refine AL.w rfl (.inl rfl) (WV.call fn12 rfl (toTable_ok n (hs.ext X60) (hr.ext X60) (he20 (by omega)).1 (he20 (by omega)).2)) ?_
        rintro _ H68 ⟨⟨u66, v67, rfl, ho70, ho71⟩, hx69⟩
        have X74 := Ext.trans X60 hx69
        have X75 := Ext.trans X61 hx69
        have X76 := Ext.trans X62 hx69
        have X77 := Ext.trans X63 hx69
        have X78 := Ext.trans X64 hx69
        have hb79 := hb65.ext hx69
        have X80 := Ext.refl H68
        have hr72 := ho70.rd
        have hr73 := ho71.rd.le (le_P (Le.refl _) (le_OR (Le.refl _)))
        refine AL.w rfl (.inl rfl) (WV.al ze30 rfl) ?_
        rintro _ H82 ⟨b81, rfl, hx83, hn84, hb85⟩
        have o86 := Nat.le_trans X74.bd hn84
        have o87 := Nat.le_trans X75.bd hn84
        have o88 := Nat.le_trans X76.bd hn84
        have o89 := Nat.le_trans X77.bd hn84
        have o90 := Nat.le_trans X78.bd hn84
        have o91 := Nat.le_trans X80.bd hn84
        have ne92 : b5 ≠ b81 := by have := hb79.lt; omega
        have X93 := Ext.trans X74 hx83
        have X94 := Ext.trans X75 hx83
        have X95 := Ext.trans X76 hx83
        have X96 := Ext.trans X77 hx83
        have X97 := Ext.trans X78 hx83
        have X98 := Ext.trans X80 hx83
        have hb99 := hb79.ext hx83
        have X100 := Ext.refl H82
        refine AL.w0 (.inl rfl) (WV.st rfl rfl va30 rfl hb85 (Nat.le_of_ble_eq_true rfl) (one_cons rfl (one_cons (sl_one1 (hr72.ext X98).isSl) (one_cons (sl_one1 (hr73.ext X98).isSl) one_nil)))) ?_
        rintro _ H101 ⟨hx102, hb103⟩
        have X104 := Ext.thru X93 hx102 (fun z_ hz_ => by rw [hz_]; exact o86)
        have X105 := Ext.thru X94 hx102 (fun z_ hz_ => by rw [hz_]; exact o87)
        have X106 := Ext.thru X95 hx102 (fun z_ hz_ => by rw [hz_]; exact o88)
        have X107 := Ext.thru X96 hx102 (fun z_ hz_ => by rw [hz_]; exact o89)
        have X108 := Ext.thru X97 hx102 (fun z_ hz_ => by rw [hz_]; exact o90)
        have X109 := Ext.thru X98 hx102 (fun z_ hz_ => by rw [hz_]; exact o91)
        have hb111 := hb99.but hx102 ne92
        have hb112 : At W H101 b81 ⟨30, [.int .i64 n, u66, v67], 3⟩ := hb103
        refine AL.nx ?_
        refine AW.rs ?_
        refine AL.val rfl (.inl rfl) (HV.mv rfl) ?_
        refine AL.w rfl (.inl rfl) (WV.call fn18 rfl (toS_ok (hgr.ext X104) (by omega))) ?_
        rintro v113 H114 ⟨hx115, ho116⟩
        have X118 := Ext.trans X104 hx115
        have X119 := Ext.trans X105 hx115
        have X120 := Ext.trans X106 hx115
        have X121 := Ext.trans X107 hx115
        have X122 := Ext.trans X108 hx115
        have X123 := Ext.trans X109 hx115
        have hb124 := hb111.ext hx115
        have hb125 := hb112.ext hx115
        have X126 := Ext.refl H114
        have hr117 := ho116.rd
        refine AL.val rfl (.inl rfl) (HV.as rfl) ?_
        refine AL.nx ?_
        refine AW.rs ?_
        refine AL.val rfl (.inl rfl) (HV.mv rfl) ?_
        refine AL.w rfl (.inl rfl) (WV.call fn18 rfl (toS_ok (hmr.ext X118) (by omega))) ?_
        rintro v127 H128 ⟨hx129, ho130⟩
        have X132 := Ext.trans X118 hx129
        have X133 := Ext.trans X119 hx129
        have X134 := Ext.trans X120 hx129
        have X135 := Ext.trans X121 hx129
        have X136 := Ext.trans X122 hx129
        have X137 := Ext.trans X123 hx129
        have X138 := Ext.trans X126 hx129
        have hb139 := hb124.ext hx129
        have hb140 := hb125.ext hx129
        have X141 := Ext.refl H128
        have hr131 := ho130.rd
        refine AL.val rfl (.inl rfl) (HV.as rfl) ?_
        refine AL.nx ?_
        refine AW.rs ?_
        refine AL.val rfl (.inl rfl) (HV.lda (cs := [.int .i64 n, u66, v67]) rfl va30 (at_cells hb140 rfl)) ?_
        refine AL.val rfl (.inl rfl) (HV.mv rfl) ?_
        refine AL.val rfl (.inl rfl) (HV.mv rfl) ?_
        refine AL.w rfl (.inl rfl) (WV.call fn19 rfl (implOV_ok n (hr72.ext X137) (hr73.ext X137) (hr117.ext X138) hr131)) ?_
        rintro _ H142 ⟨rfl, hx143⟩
        have X144 := Ext.trans X132 hx143
        have X145 := Ext.trans X133 hx143
        have X146 := Ext.trans X134 hx143
        have X147 := Ext.trans X135 hx143
        have X148 := Ext.trans X136 hx143
        have X149 := Ext.trans X137 hx143
        have X150 := Ext.trans X138 hx143
        have X151 := Ext.trans X141 hx143
        have hb152 := hb139.ext hx143
        have hb153 := hb140.ext hx143
        refine AL.val rfl (.inl rfl) (HV.mv rfl) ?_
        refine AL.val rfl (.inl rfl) (HV.ex rfl rfl) ?_
        refine AL.val rfl (.inl rfl) (HV.ex rfl rfl) ?_
        refine AL.val rfl (.inl rfl) (HV.as rfl) ?_
        refine AL.val rfl (.inl rfl) (HV.as rfl) ?_
        refine AL.nx ?_
        refine AW.seq ?_
        refine AW.rs ?_
        refine AL.val rfl (.inl rfl) (HV.mv rfl) ?_
        refine AL.val rfl (.inl rfl) (HV.mv rfl) ?_
        refine AL.val rfl (.inl rfl) (HV.nei rfl rfl) ?_
        refine AL.val rfl (.inl rfl) (HV.mv rfl) ?_
        by_cases c154 : ((ovR n s l g m).1) ≠ ((ovR n s l g m).1)
        · -- true
          have c154_ : decide (((ovR n s l g m).1) ≠ ((ovR n s l g m).1)) = true := decide_eq_true c154
          rw [c154_]
          refine AL.off rfl rfl (by decide) rfl ?_
          refine AL.off rfl rfl (by decide) rfl ?_
          refine AL.off rfl rfl (by decide) rfl ?_
          refine AL.val rfl (.inl rfl) (HV.pickT rfl rfl) ?_
          refine AL.nx ?_
          refine AW.cond rfl (fun _ => ?_) (fun h => by cases h)
          refine AW.rs ?_
          refine AL.val rfl (.inl rfl) (HV.as rfl) ?_
          refine AL.nx ?_
          refine AW.ret ?_
          refine ret_and ?_
          refine post_one rfl rfl ?_ (.inr rfl)
          exact absurd c154 (by simp)
        · -- false
          have c154_ : decide (((ovR n s l g m).1) ≠ ((ovR n s l g m).1)) = false := decide_eq_false c154
          rw [c154_]
          refine AL.val rfl (.inr ⟨_, _, _, rfl, rfl, rfl⟩) (HV.mv rfl) ?_
          refine AL.val rfl (.inr ⟨_, _, _, rfl, rfl, rfl⟩) (HV.mv rfl) ?_
          refine AL.val rfl (.inr ⟨_, _, _, rfl, rfl, rfl⟩) (HV.nei rfl rfl) ?_
          refine AL.val rfl (.inl rfl) (HV.pickF rfl rfl) ?_
          refine AL.nx ?_
          refine AW.ifd rfl (fun c156 => ?_) (fun c156 => ?_)
          · -- then
            refine AW.rs ?_
            refine AL.val rfl (.inl rfl) (HV.as rfl) ?_
            refine AL.nx ?_
            refine AW.ret ?_
            refine ret_and ?_
            refine post_one rfl rfl ?_ (.inr rfl)
            exact absurd c156 (by simp)
          · -- else
            refine AW.skip ?_
            refine nrm_and ?_
            refine AW.seq ?_
            refine AW.seq ?_
            refine AW.draw' [0, 0, 2, 7, 15] mixed (by rfl) ?_
            refine Dr.read 0 _ 57 _ rfl rfl rfl rfl rfl (RV.of (by intro _ _ h; cases h) (.inl rfl) (fun _ xd => HV.lda (cs := [.int .i64 n, u66, v67]) rfl va30 (fun j u hu => rdc_ext xd ((at_cells hb153 rfl) j u hu)))) ?_
            refine Dr.read 1 _ 58 _ rfl rfl rfl rfl rfl (RV.of (by intro _ _ h; cases h) (.inl rfl) (fun _ xd => HV.lda (cs := [.int .i64 n, vs, v]) rfl va25 (fun j u hu => rdc_ext xd ((at_cells hb152 rfl) j u hu)))) ?_
            refine Dr.eff 2 _ _ rfl (by intro d h; cases h; exact ⟨rfl, rfl⟩) rfl rfl rfl (EC.of (by intro _ _ h; cases h) (.inl rfl) (WV.call fn12 rfl (toTable_ok n (hs.ext X144) (hr.ext X144) (he20 (by omega)).1 (he20 (by omega)).2))) (fun v H' h => .inl (h.2)) ?_
            rintro _ H159 ⟨⟨u157, v158, rfl, ho161, ho162⟩, hx160⟩
            have X165 := Ext.trans X144 hx160
            have X166 := Ext.trans X145 hx160
            have X167 := Ext.trans X146 hx160
            have X168 := Ext.trans X147 hx160
            have X169 := Ext.trans X148 hx160
            have X170 := Ext.trans X149 hx160
            have X171 := Ext.trans X150 hx160
            have X172 := Ext.trans X151 hx160
            have hb173 := hb152.ext hx160
            have hb174 := hb153.ext hx160
            have X175 := Ext.refl H159
            have hr163 := ho161.rd
            have hr164 := ho162.rd.le (le_P (Le.refl _) (le_OR (Le.refl _)))
            refine Dr.eff 3 _ _ rfl (by intro d h; cases h; exact ⟨rfl, rfl⟩) rfl rfl rfl (EC.of (by intro _ _ h; cases h) (.inl rfl) (WV.call fn14 rfl (eqTable_ok n n (hr72.ext X170) (hr73.ext X170) hr163 hr164))) (fun v H' h => .inl (h.2)) ?_
            rintro _ H176 ⟨rfl, hx177⟩
            have X178 := Ext.trans X165 hx177
            have X179 := Ext.trans X166 hx177
            have X180 := Ext.trans X167 hx177
            have X181 := Ext.trans X168 hx177
            have X182 := Ext.trans X169 hx177
            have X183 := Ext.trans X170 hx177
            have X184 := Ext.trans X171 hx177
            have X185 := Ext.trans X172 hx177
            have X186 := Ext.trans X175 hx177
            have hb187 := hb173.ext hx177
            have hb188 := hb174.ext hx177
            refine Dr.read 4 _ 61 _ rfl rfl rfl rfl rfl (RV.of (by intro _ _ h; cases h) (.inl rfl) (fun _ xd => HV.not rfl)) ?_
            refine Dr.fin rfl ?_
            refine nrm_and ?_
            refine AW.ifn rfl (fun c189 => ?_) (fun c189 => ?_)
            · -- then
              refine AW.rs ?_
              refine AL.val rfl (.inl rfl) (HV.as rfl) ?_
              refine AL.nx ?_
              refine AW.ret ?_
              refine ret_and ?_
              refine post_one rfl rfl ?_ (.inr rfl)
              exact absurd c189 (by simp)
            · -- else
              refine AW.skip ?_
              refine nrm_and ?_
              refine AW.seq ?_
              refine AW.rs ?_
              refine AL.val rfl (.inl rfl) (HV.mv rfl) ?_
              refine AL.val rfl (.inl rfl) (HV.mv rfl) ?_
              refine AL.w rfl (.inl rfl) (WV.call fn18 rfl (toS_ok (hgr.ext X178) (by omega))) ?_
              rintro v190 H191 ⟨hx192, ho193⟩
              have X195 := Ext.trans X178 hx192
              have X196 := Ext.trans X179 hx192
              have X197 := Ext.trans X180 hx192
              have X198 := Ext.trans X181 hx192
              have X199 := Ext.trans X182 hx192
              have X200 := Ext.trans X183 hx192
              have X201 := Ext.trans X184 hx192
              have X202 := Ext.trans X185 hx192
              have X203 := Ext.trans X186 hx192
              have hb204 := hb187.ext hx192
              have hb205 := hb188.ext hx192
              have X206 := Ext.refl H191
              have hr194 := ho193.rd
              refine AL.w rfl (.inl rfl) (WV.call fn20 rfl (eqS_ok (hr117.ext X201) hr194)) ?_
              rintro _ H207 ⟨rfl, hx208⟩
              have X209 := Ext.trans X195 hx208
              have X210 := Ext.trans X196 hx208
              have X211 := Ext.trans X197 hx208
              have X212 := Ext.trans X198 hx208
              have X213 := Ext.trans X199 hx208
              have X214 := Ext.trans X200 hx208
              have X215 := Ext.trans X201 hx208
              have X216 := Ext.trans X202 hx208
              have X217 := Ext.trans X203 hx208
              have X218 := Ext.trans X206 hx208
              have hb219 := hb204.ext hx208
              have hb220 := hb205.ext hx208
              refine AL.val rfl (.inl rfl) (HV.not rfl) ?_
              refine AL.nx ?_
              refine AW.ifn rfl (fun c221 => ?_) (fun c221 => ?_)
              · -- then
                refine AW.rs ?_
                refine AL.val rfl (.inl rfl) (HV.as rfl) ?_
                refine AL.nx ?_
                refine AW.ret ?_
                refine ret_and ?_
                refine post_one rfl rfl ?_ (.inr rfl)
                exact absurd c221 (by simp)
              · -- else
                refine AW.skip ?_
                refine nrm_and ?_
                refine AW.seq ?_
                refine AW.rs ?_
                refine AL.val rfl (.inl rfl) (HV.mv rfl) ?_
                refine AL.val rfl (.inl rfl) (HV.mv rfl) ?_
                refine AL.w rfl (.inl rfl) (WV.call fn18 rfl (toS_ok (hmr.ext X209) (by omega))) ?_
                rintro v222 H223 ⟨hx224, ho225⟩
                have X227 := Ext.trans X209 hx224
                have X228 := Ext.trans X210 hx224
                have X229 := Ext.trans X211 hx224
                have X230 := Ext.trans X212 hx224
                have X231 := Ext.trans X213 hx224
                have X232 := Ext.trans X214 hx224
                have X233 := Ext.trans X215 hx224
                have X234 := Ext.trans X216 hx224
                have X235 := Ext.trans X217 hx224
                have X236 := Ext.trans X218 hx224
                have hb237 := hb219.ext hx224
                have hb238 := hb220.ext hx224
                have X239 := Ext.refl H223
                have hr226 := ho225.rd
                refine AL.w rfl (.inl rfl) (WV.call fn20 rfl (eqS_ok (hr131.ext X234) hr226)) ?_
                rintro _ H240 ⟨rfl, hx241⟩
                have X242 := Ext.trans X227 hx241
                have X243 := Ext.trans X228 hx241
                have X244 := Ext.trans X229 hx241
                have X245 := Ext.trans X230 hx241
                have X246 := Ext.trans X231 hx241
                have X247 := Ext.trans X232 hx241
                have X248 := Ext.trans X233 hx241
                have X249 := Ext.trans X234 hx241
                have X250 := Ext.trans X235 hx241
                have X251 := Ext.trans X236 hx241
                have X252 := Ext.trans X239 hx241
                have hb253 := hb237.ext hx241
                have hb254 := hb238.ext hx241
                refine AL.val rfl (.inl rfl) (HV.not rfl) ?_
                refine AL.nx ?_
                refine AW.ifn rfl (fun c255 => ?_) (fun c255 => ?_)
                · -- then
                  refine AW.rs ?_
                  refine AL.val rfl (.inl rfl) (HV.as rfl) ?_
                  refine AL.nx ?_
                  refine AW.ret ?_
                  refine ret_and ?_
                  refine post_one rfl rfl ?_ (.inr rfl)
                  exact absurd c255 (by simp)
                · -- else
                  refine AW.skip ?_
                  refine nrm_and ?_
                  refine AW.rs ?_
                  refine AL.val rfl (.inl rfl) (HV.as rfl) ?_
                  refine AL.nx ?_
                  refine AW.ret ?_
                  refine post_one rfl rfl ?_ (.inr rfl)
                  exact ⟨rfl, X242⟩
end Go.Proofs.Ytfjihanfiliniaa.VC
