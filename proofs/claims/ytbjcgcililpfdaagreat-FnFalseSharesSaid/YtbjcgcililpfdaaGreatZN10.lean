/- Walks. -/
import Derived.Test.YtbjcgcililpfdaaGreatZN9
set_option linter.unusedVariables false
set_option linter.unusedSimpArgs false
namespace Go.Proofs.YtbjcgcililpfdaaGreat.VC
open Go Go.RowKit
variable {W : World} {H : Hp}

/-! ### The program's order of curves -/
def orI (l : List Int) : Int := (l.find? (fun x => decide (x ≠ 0))).getD 0
theorem orI_at {l : List Int} {i : Nat} {z : Int} (h : ∀ j, j < i → l.getD j 0 = 0) (hz : l[i]? = some z) (h0 : z ≠ 0) : orI l = z := by
  obtain ⟨hi, e⟩ := List.getElem?_eq_some_iff.1 hz
  unfold orI
  have : l.find? (fun x => decide (x ≠ 0)) = some z := by
    rw [List.find?_eq_some_iff_getElem]
    refine ⟨by simpa using h0, i, hi, e, fun j hj => ?_⟩
    have := h j hj
    have hl : j < l.length := by omega
    simp [hl] at this
    simpa using this
  rw [this]; rfl
theorem orI_no {l : List Int} (h : ∀ j, j < l.length → l.getD j 0 = 0) : orI l = 0 := by
  unfold orI
  have : l.find? (fun x => decide (x ≠ 0)) = none := by
    rw [List.find?_eq_none]
    intro x hx
    obtain ⟨j, hj, rfl⟩ := List.getElem_of_mem hx
    have := h j hj
    simpa [hj] using this
  rw [this]; rfl
def cfC (a b : List Int) : Int := orI [cmpI (a.length : Int) (b.length : Int), lexI a b]
theorem cfC_lt {a b : List Int} : cfC a b < 0 ↔ lessC a b := by
  unfold cfC lessC
  by_cases h : (a.length : Int) < b.length
  · have e : cmpI (a.length : Int) (b.length : Int) = -1 := if_pos h
    rw [orI_at (i := 0) (fun j hj => absurd hj (Nat.not_lt_zero _)) rfl (by rw [e]; decide), e]
    exact ⟨fun _ => .inl (by omega), fun _ => by decide⟩
  · by_cases h2 : (a.length : Int) > b.length
    · have e : cmpI (a.length : Int) (b.length : Int) = 1 := by unfold cmpI; rw [if_neg h, if_pos h2]
      rw [orI_at (i := 0) (fun j hj => absurd hj (Nat.not_lt_zero _)) rfl (by rw [e]; decide), e]
      exact ⟨fun q => absurd q (by decide), fun q => by rcases q with q | ⟨q, _⟩ <;> omega⟩
    · have e : cmpI (a.length : Int) (b.length : Int) = 0 := by unfold cmpI; rw [if_neg h, if_neg h2]
      have e2 : orI [cmpI (a.length : Int) (b.length : Int), lexI a b] = lexI a b := by
        by_cases h3 : lexI a b = 0
        · rw [e, h3]; rfl
        · exact orI_at (i := 1) (fun j hj => by obtain rfl : j = 0 := (by omega); exact e) rfl h3
      rw [e2]
      exact ⟨fun q => .inr ⟨by omega, q⟩, fun q => by rcases q with q | ⟨_, q⟩; (omega); exact q⟩
set_option maxRecDepth 100000 in
theorem isNaNi_ok (a : Int) : ACalls Tryz.prog W 73 #[.int .i64 a] H (fun r H' => r = .bool false ∧ Ext H H') := by
  refine ACalls.of (args := [.int .i64 a]) Tryz.func73 rfl rfl ?_
  have X0 := Ext.refl H
  refine AW.rs ?_
  refine AL.val rfl (.inl rfl) (HV.as rfl) ?_
  refine AL.nx ?_
  refine AW.rs ?_
  refine AL.val rfl (.inl rfl) (HV.mv rfl) ?_
  refine AL.val rfl (.inl rfl) (HV.mv rfl) ?_
  refine AL.val rfl (.inl rfl) (HV.nei rfl rfl) ?_
  refine AL.val rfl (.inl rfl) (HV.as rfl) ?_
  refine AL.nx ?_
  refine AW.ret ?_
  refine post_one rfl rfl ?_ (.inr rfl)
  exact ⟨by simp, X0⟩

set_option maxRecDepth 100000 in
theorem cmpi_ok (a b : Int) : ACalls Tryz.prog W 53 #[.int .i64 a, .int .i64 b] H (fun r H' => r = .int .i64 (cmpI a b) ∧ Ext H H') := by
  refine ACalls.of (args := [.int .i64 a, .int .i64 b]) Tryz.func53 rfl rfl ?_
  have X0 := Ext.refl H
  refine AW.rs ?_
  refine AL.val rfl (.inl rfl) (HV.as rfl) ?_
  refine AL.nx ?_
  refine AW.rs ?_
  refine AL.val rfl (.inl rfl) (HV.mv rfl) ?_
  refine AL.w rfl (.inl rfl) (WV.call fn73 rfl (isNaNi_ok (W := W) a)) ?_
  rintro _ H1 ⟨rfl, hx2⟩
  have X3 := Ext.trans X0 hx2
  refine AL.val rfl (.inl rfl) (HV.as rfl) ?_
  refine AL.nx ?_
  refine AW.rs ?_
  refine AL.val rfl (.inl rfl) (HV.mv rfl) ?_
  refine AL.w rfl (.inl rfl) (WV.call fn73 rfl (isNaNi_ok (W := W) b)) ?_
  rintro _ H4 ⟨rfl, hx5⟩
  have X6 := Ext.trans X3 hx5
  refine AL.val rfl (.inl rfl) (HV.as rfl) ?_
  refine AL.nx ?_
  refine AW.seq ?_
  refine AW.rs ?_
  refine AL.val rfl (.inl rfl) (HV.mv rfl) ?_
  refine AL.nx ?_
  refine AW.cond rfl (fun h => by cases h) (fun _ => ?_)
  refine AW.skip ?_
  refine nrm_and ?_
  refine AW.seq ?_
  refine AW.rs ?_
  refine AL.val rfl (.inl rfl) (HV.mv rfl) ?_
  refine AL.nx ?_
  refine AW.cond rfl (fun h => by cases h) (fun _ => ?_)
  refine AW.skip ?_
  refine nrm_and ?_
  refine AW.seq ?_
  refine AW.rs ?_
  refine AL.val rfl (.inl rfl) (HV.mv rfl) ?_
  refine AL.val rfl (.inl rfl) (HV.mv rfl) ?_
  refine AL.val rfl (.inl rfl) (HV.lti rfl rfl) ?_
  refine AL.nx ?_
  refine AW.ifd rfl (fun c9 => ?_) (fun c9 => ?_)
  · -- then
    refine AW.rs ?_
    refine AL.val rfl (.inl rfl) (HV.as rfl) ?_
    refine AL.nx ?_
    refine AW.ret ?_
    refine ret_and ?_
    refine post_one rfl rfl ?_ (.inr rfl)
    exact ⟨by unfold cmpI; first | rw [if_pos (by omega)] | rw [if_neg (by omega), if_pos (by omega)] | rw [if_neg (by omega), if_neg (by omega)], X6⟩
  · -- else
    refine AW.skip ?_
    refine nrm_and ?_
    refine AW.seq ?_
    refine AW.rs ?_
    refine AL.val rfl (.inl rfl) (HV.mv rfl) ?_
    refine AL.val rfl (.inl rfl) (HV.mv rfl) ?_
    refine AL.val rfl (.inl rfl) (HV.gti rfl rfl) ?_
    refine AL.nx ?_
    refine AW.ifd rfl (fun c10 => ?_) (fun c10 => ?_)
    · -- then
      refine AW.rs ?_
      refine AL.val rfl (.inl rfl) (HV.as rfl) ?_
      refine AL.nx ?_
      refine AW.ret ?_
      refine ret_and ?_
      refine post_one rfl rfl ?_ (.inr rfl)
      exact ⟨by unfold cmpI; first | rw [if_pos (by omega)] | rw [if_neg (by omega), if_pos (by omega)] | rw [if_neg (by omega), if_neg (by omega)], X6⟩
    · -- else
      refine AW.skip ?_
      refine nrm_and ?_
      refine AW.rs ?_
      refine AL.val rfl (.inl rfl) (HV.as rfl) ?_
      refine AL.nx ?_
      refine AW.ret ?_
      refine post_one rfl rfl ?_ (.inr rfl)
      exact ⟨by unfold cmpI; first | rw [if_pos (by omega)] | rw [if_neg (by omega), if_pos (by omega)] | rw [if_neg (by omega), if_neg (by omega)], X6⟩

set_option maxRecDepth 100000 in
theorem or_ok {v : Value} {l : List Int} {ok : Nat → Prop} (hr : RdK kI W H ok v l) : ACalls Tryz.prog W 52 #[v] H (fun r H' => r = .int .i64 (orI l) ∧ Ext H H') := by
  refine ACalls.of (args := [v]) Tryz.func52 rfl rfl ?_
  have X0 := Ext.refl H
  have hm1 := hr.max
  refine AW.rs ?_
  refine AL.val rfl (.inl rfl) (HV.as rfl) ?_
  refine AL.nx ?_
  refine AW.rs ?_
  refine AL.val rfl (.inl rfl) (HV.as rfl) ?_
  refine AL.nx ?_
  refine AW.seq ?_
  refine AW.rs ?_
  refine AL.val rfl (.inl rfl) (HV.mv rfl) ?_
  refine AL.val rfl (.inl rfl) (HV.len Tryz.underlying89 rfl hr.isSl) ?_
  refine AL.val rfl (.inl rfl) (HV.mv rfl) ?_
  refine AL.nx ?_
  refine AW.block ?_
  refine AW.loop (σ := Nat) (fun i => [(3, .int .i64 0), (6, v), (7, .int .i64 (l.length : Int)), (8, .int .i64 (i : Int))]) (fun i H' => Ext H H' ∧ i ≤ l.length ∧ (∀ j, j < i → l.getD j 0 = 0) ∧ True) (fun i => l.length - i) 0 ⟨X0, Nat.zero_le _, fun j hj => absurd hj (Nat.not_lt_zero _), trivial⟩ ⟨rfl, rfl, rfl, rfl, trivial⟩ ?_
  rintro i H2 ⟨X3, hi, he, _⟩
  refine AW.rs ?_
  refine AL.val rfl (.inl rfl) (HV.lti rfl rfl) ?_
  refine AL.nx ?_
  refine AW.seq ?_
  refine AW.ifd rfl (fun c4 => ?_) (fun c4 => ?_)
  · -- then
    refine AW.skip ?_
    refine nrm_and ?_
    refine AW.seq ?_
    refine AW.block ?_
    refine AW.rs ?_
    obtain ⟨p5, z6, cs7, hz8, hK9, hC10, hP11⟩ := RdK.ix (q := (i : Int)) hr sl89 (by omega) (by omega)
    obtain rfl : cs7 = [.int .i64 z6] := hK9
    refine AL.val rfl (.inl rfl) (hP11 rfl rfl) ?_
    refine AL.val rfl (.inl rfl) (HV.ld rfl va3 (cells_first (hC10.ext X3) rfl)) ?_
    refine AL.val rfl (.inl rfl) (HV.as rfl) ?_
    refine AL.nx ?_
    refine AW.rs ?_
    refine AL.val rfl (.inl rfl) (HV.mv rfl) ?_
    refine AL.val rfl (.inl rfl) (HV.mv rfl) ?_
    refine AL.val rfl (.inl rfl) (HV.nei rfl rfl) ?_
    refine AL.nx ?_
    refine AW.ifd rfl (fun c12 => ?_) (fun c12 => ?_)
    · -- then
      refine AW.rs ?_
      refine AL.val rfl (.inl rfl) (HV.mv rfl) ?_
      refine AL.val rfl (.inl rfl) (HV.as rfl) ?_
      refine AL.nx ?_
      refine AW.ret ?_
      refine ret_blk (ret_and (ret_and (ret_blk (ret_and ?_))))
      refine post_one rfl rfl ?_ (.inr rfl)
      exact ⟨congrArg (Value.int .i64) (orI_at he (getq hz8 rfl) (by omega)).symm, X3⟩
    · -- else
      refine AW.skip ?_
      refine nrm_blk (nrm_and ?_)
      refine AW.reg ?_
      refine AL.val rfl (.inl rfl) (HV.add rfl rfl (by omega)) ?_
      refine AL.val rfl (.inl rfl) (HV.mv rfl) ?_
      refine AL.nil ?_
      refine nrm_and ?_
      exact ⟨i + 1, ⟨X3, by omega, fun j hj => by
      rcases Nat.lt_or_ge j i with h1 | h1
      · exact he j h1
      · obtain rfl : j = i := by omega
        rw [gd hz8 rfl]; omega, trivial⟩, by first | omega | (dsimp only; omega), ⟨rfl, rfl, rfl, rfl, trivial⟩⟩
  · -- else
    refine AW.exit ?_
    refine ex_and (ex_and (ex_blk ?_))
    refine nrm_and ?_
    refine AW.rs ?_
    refine AL.val rfl (.inl rfl) (HV.mv rfl) ?_
    refine AL.val rfl (.inl rfl) (HV.as rfl) ?_
    refine AL.nx ?_
    refine AW.ret ?_
    refine post_one rfl rfl ?_ (.inr rfl)
    exact ⟨congrArg (Value.int .i64) (orI_no (fun j hj => he j (by omega))).symm, X3⟩

set_option maxRecDepth 100000 in
theorem near2_ok {v v2 : Value} {l m : List Int} {ok ok2 : Nat → Prop} (hr : RdK kI W H ok v l) (hr2 : RdK kI W H ok2 v2 m) : ACalls Tryz.prog W 51 #[v, v2] H (fun r H' => r = .int .i64 (cfC l m) ∧ Ext H H') := by
  refine ACalls.of (args := [v, v2]) Tryz.func51 rfl rfl ?_
  have X0 := Ext.refl H
  have hm1 := hr.max
  have hm2 := hr2.max
  refine AW.rs ?_
  refine AL.val rfl (.inl rfl) (HV.as rfl) ?_
  refine AL.nx ?_
  refine AW.rs ?_
  refine AL.val rfl (.inl rfl) (HV.mv rfl) ?_
  refine AL.val rfl (.inl rfl) (HV.len Tryz.underlying25 rfl hr.isSl) ?_
  refine AL.val rfl (.inl rfl) (HV.mv rfl) ?_
  refine AL.val rfl (.inl rfl) (HV.len Tryz.underlying25 rfl hr2.isSl) ?_
  refine AL.w rfl (.inl rfl) (WV.call fn53 rfl (cmpi_ok (W := W) (l.length : Int) (m.length : Int))) ?_
  rintro _ H3 ⟨rfl, hx4⟩
  have X5 := Ext.trans X0 hx4
  refine AL.val rfl (.inl rfl) (HV.mv rfl) ?_
  refine AL.val rfl (.inl rfl) (HV.mv rfl) ?_
  refine AL.w rfl (.inl rfl) (WV.call fn54 rfl (lexI_ok (hr.ext X5) (hr2.ext X5))) ?_
  rintro _ H6 ⟨rfl, hx7⟩
  have X8 := Ext.trans X5 hx7
  have X9 := Ext.refl H6
  have o10 := X8.bd
  have o11 := X9.bd
  refine AL.w rfl (.inl rfl) (WV.bsK (K := kI) (l := ([cmpI (l.length : Int) (m.length : Int), lexI l m] : List Int)) (css := [[.int .i64 (cmpI (l.length : Int) (m.length : Int))], [.int .i64 (lexI l m)]]) sl89 rfl rfl (by first | rfl | (simp [Instr.fill, Value.cells, kI, kB, kU, kU8, kS, Kd.sc]; done) | (simp [Instr.fill, Value.cells, kI, kB, kU, kU8, kS, Kd.sc, rng1, rng2, rng3, rng4, kP])) rfl (segs_cons rfl (segs_cons rfl segs_nil))) ?_
  rintro v12 H13 ⟨hx14, ho15⟩
  have X16 := Ext.trans X8 hx14
  have X17 := Ext.trans X9 hx14
  refine AL.w rfl (.inl rfl) (WV.call fn52 rfl (or_ok ho15.rd)) ?_
  rintro _ H19 ⟨rfl, hx20⟩
  have X21 := Ext.trans X16 hx20
  have X22 := Ext.trans X17 hx20
  have ho23 := ho15.ext hx20
  refine AL.val rfl (.inl rfl) (HV.as rfl) ?_
  refine AL.nx ?_
  refine AW.ret ?_
  refine post_one rfl rfl ?_ (.inr rfl)
  exact ⟨rfl, X21⟩
end Go.Proofs.YtbjcgcililpfdaaGreat.VC

