/- Walks. -/
import Derived.Test.YtbjcgcililpfdaaVF4
set_option linter.unusedVariables false
set_option linter.unusedSimpArgs false
namespace Go.Proofs.Ytbjcgcililpfdaa.VC
open Go Go.RowKit
variable {W : World} {H : Hp}

/-! ### Modules -/
/-- The holders of g whose bit of q is set, as a crowd. -/
def spr (g : List Int) (q : Nat) (j : Nat) : Nat := (List.range j).foldl (fun a h => if q / 2 ^ h % 2 = 1 then a ||| 2 ^ (g.getD h 0).toNat else a) 0
theorem spr_succ (g : List Int) (q j : Nat) : spr g q (j + 1) = if q / 2 ^ j % 2 = 1 then spr g q j ||| 2 ^ (g.getD j 0).toNat else spr g q j := by
  unfold spr
  rw [List.range_succ, List.foldl_append]; rfl
theorem spr_lt {g : List Int} {q m : Nat} (h : ∀ x ∈ g, 0 ≤ x ∧ x < m) (hm : 0 < m) : ∀ j, spr g q j < 2 ^ m
  | 0 => Nat.two_pow_pos _
  | j + 1 => by
    have ih := spr_lt (q := q) h hm j
    rw [spr_succ]
    split
    · refine Nat.or_lt_two_pow ih (Nat.pow_lt_pow_right (by decide) ?_)
      rw [List.getD_eq_getElem?_getD]
      cases e : g[j]? with
      | none => simpa using hm
      | some y => have := h y (List.mem_of_getElem? e); simp only [Option.getD_some]; omega
    · exact ih
theorem or_z {a : Nat} {z : Int} (ha : a < 128) (hz : 0 ≤ z ∧ z < 7) : bt .or .u64 (a : Int) (IntKind.u64.wrap (1 * 2 ^ min (z : Int).toNat IntKind.u64.bits)) = ((a ||| 2 ^ z.toNat : Nat) : Int) := by
  have : z = 0 ∨ z = 1 ∨ z = 2 ∨ z = 3 ∨ z = 4 ∨ z = 5 ∨ z = 6 := by omega
  have e : IntKind.u64.wrap (1 * 2 ^ min (z : Int).toNat IntKind.u64.bits) = ((2 ^ z.toNat : Nat) : Int) := by
    rcases this with rfl | rfl | rfl | rfl | rfl | rfl | rfl <;> rfl
  have p : 2 ^ z.toNat < 2 ^ 7 := Nat.pow_lt_pow_right (by decide) (by omega)
  rw [e]
  exact (bt_nat .u64 (.inr rfl) ha p).1
theorem spr_128 {g : List Int} {q : Nat} (h : ∀ x ∈ g, 0 ≤ x ∧ x < 7) (j : Nat) : spr g q j < 128 := spr_lt (m := 7) h (by decide) j
def grpL (q h : Nat) : List Int := ((List.range h).filter (fun j => q / 2 ^ j % 2 == 1)).map Int.ofNat
theorem grpL_succ (q h : Nat) : grpL q (h + 1) = grpL q h ++ if q / 2 ^ h % 2 = 1 then [(h : Int)] else [] := by
  unfold grpL
  rw [List.range_succ, List.filter_append, List.map_append]
  by_cases e : q / 2 ^ h % 2 = 1 <;> simp [e]
theorem grpL_len (q h : Nat) : (grpL q h).length ≤ h := by
  unfold grpL
  rw [List.length_map]
  exact Nat.le_trans (List.length_filter_le _ _) (by simp)
theorem andn {n : Int} {g : List Int} (hn : 1 ≤ n ∧ n ≤ 7) (hg : Ris 0 (n - 1) g) : bt .andNot .u64 (((2 ^ n.toNat : Nat) : Int) - 1) (crowd g) = ((2 ^ n.toNat - 1 - bitN g : Nat) : Int) := by
  obtain ⟨_, h2, h3⟩ := bits_nat hn hg
  have p7 := pow7 hn
  rw [h2]
  exact (by decide +kernel : ∀ n : Fin 8, ∀ b : Fin 128, b.val < 2 ^ n.val → bt .andNot .u64 (((2 ^ n.val : Nat) : Int) - 1) (b.val : Int) = ((2 ^ n.val - 1 - b.val : Nat) : Int)) ⟨n.toNat, by omega⟩ ⟨bitN g, by omega⟩ h3
noncomputable def ansL (l : List (List Int)) (g : List Int) (q m : Nat) : List Bool := (List.range m).map fun (s : Nat) => decide (opI ((q ||| spr g s g.length : Nat) : Int) l)
theorem ansL_succ (l : List (List Int)) (g : List Int) (q m : Nat) : ansL l g q (m + 1) = ansL l g q m ++ [decide (opI ((q ||| spr g m g.length : Nat) : Int) l)] := by
  unfold ansL
  rw [List.range_succ, List.map_append]; rfl
theorem ansL_len (l : List (List Int)) (g : List Int) (q m : Nat) : (ansL l g q m).length = m := by simp [ansL]
set_option maxRecDepth 100000 in
theorem eqB_ok {v v2 : Value} {l m : List Bool} {ok ok2 : Nat → Prop} (hr : RdK kB W H ok v l) (hr2 : RdK kB W H ok2 v2 m) : ACalls Try.prog W 102 #[v, v2] H (fun r H' => r = .bool (decide (l = m)) ∧ Ext H H') := by
  refine ACalls.of (args := [v, v2]) Try.func102 rfl rfl ?_
  have X0 := Ext.refl H
  have hm1 := hr.max
  have hm2 := hr2.max
  refine AW.rs ?_
  refine AL.val rfl (.inl rfl) (HV.as rfl) ?_
  refine AL.nx ?_
  refine AW.seq ?_
  refine AW.rs ?_
  refine AL.val rfl (.inl rfl) (HV.mv rfl) ?_
  refine AL.val rfl (.inl rfl) (HV.len Try.underlying81 rfl hr.isSl) ?_
  refine AL.val rfl (.inl rfl) (HV.mv rfl) ?_
  refine AL.val rfl (.inl rfl) (HV.len Try.underlying81 rfl hr2.isSl) ?_
  refine AL.val rfl (.inl rfl) (HV.nei rfl rfl) ?_
  refine AL.nx ?_
  refine AW.ifd rfl (fun c3 => ?_) (fun c3 => ?_)
  · -- then
    refine AW.rs ?_
    refine AL.val rfl (.inl rfl) (HV.as rfl) ?_
    refine AL.nx ?_
    refine AW.ret ?_
    refine ret_and ?_
    refine post_one rfl rfl ?_ (.inr rfl)
    exact ⟨dec_f (fun e => by subst e; omega), X0⟩
  · -- else
    refine AW.skip ?_
    refine nrm_and ?_
    refine AW.seq ?_
    refine AW.rs ?_
    refine AL.val rfl (.inl rfl) (HV.mv rfl) ?_
    refine AL.val rfl (.inl rfl) (HV.len Try.underlying81 rfl hr.isSl) ?_
    refine AL.val rfl (.inl rfl) (HV.mv rfl) ?_
    refine AL.nx ?_
    refine AW.block ?_
    refine AW.loop (σ := Nat) (fun i => [(0, v), (1, v2), (12, .int .i64 (l.length : Int)), (13, .int .i64 (i : Int))]) (fun i H' => Ext H H' ∧ i ≤ l.length ∧ (∀ j, j < i → l.getD j false = m.getD j false) ∧ True) (fun i => l.length - i) 0 ⟨X0, Nat.zero_le _, fun j hj => absurd hj (Nat.not_lt_zero _), trivial⟩ ⟨rfl, rfl, rfl, rfl, trivial⟩ ?_
    rintro i H4 ⟨X5, hi, he, _⟩
    refine AW.rs ?_
    refine AL.val rfl (.inl rfl) (HV.lti rfl rfl) ?_
    refine AL.nx ?_
    refine AW.seq ?_
    refine AW.ifd rfl (fun c6 => ?_) (fun c6 => ?_)
    · -- then
      refine AW.skip ?_
      refine nrm_and ?_
      refine AW.seq ?_
      refine AW.block ?_
      refine AW.rs ?_
      refine AL.val rfl (.inl rfl) (HV.mv rfl) ?_
      refine AL.val rfl (.inl rfl) (HV.as rfl) ?_
      refine AL.nx ?_
      refine AW.seq ?_
      refine AW.draw' [0, 0, 3, 7, 0, 0, 48, 112, 255] mixed (by rfl) ?_
      refine Dr.read 0 _ 16 _ rfl rfl rfl rfl rfl (RV.of (by intro _ _ h; cases h) (.inl rfl) (fun _ xd => HV.mv rfl)) ?_
      refine Dr.read 1 _ 17 _ rfl rfl rfl rfl rfl (RV.of (by intro _ _ h; cases h) (.inl rfl) (fun _ xd => HV.mv rfl)) ?_
      obtain ⟨p7, z8, cs9, hz10, hK11, hC12, hP13⟩ := RdK.ix (q := (i : Int)) hr sl81 (by omega) (by omega)
      obtain rfl : cs9 = [.bool z8] := hK11
      refine Dr.read 2 _ 18 _ rfl rfl rfl rfl rfl (RV.of (by intro _ _ h; cases h) (.inl rfl) (fun _ xd => hP13 rfl rfl)) ?_
      refine Dr.read 3 _ 19 _ rfl rfl rfl rfl rfl (RV.of (by intro _ _ h; cases h) (.inl rfl) (fun _ xd => HV.ld rfl va4 (rdc_ext xd (cells_first (hC12.ext X5) rfl)))) ?_
      refine Dr.read 4 _ 20 _ rfl rfl rfl rfl rfl (RV.of (by intro _ _ h; cases h) (.inl rfl) (fun _ xd => HV.mv rfl)) ?_
      refine Dr.read 5 _ 21 _ rfl rfl rfl rfl rfl (RV.of (by intro _ _ h; cases h) (.inl rfl) (fun _ xd => HV.mv rfl)) ?_
      obtain ⟨p14, z15, cs16, hz17, hK18, hC19, hP20⟩ := RdK.ix (q := (i : Int)) hr2 sl81 (by omega) (by omega)
      obtain rfl : cs16 = [.bool z15] := hK18
      refine Dr.read 6 _ 22 _ rfl rfl rfl rfl rfl (RV.of (by intro _ _ h; cases h) (.inl rfl) (fun _ xd => hP20 rfl rfl)) ?_
      refine Dr.read 7 _ 23 _ rfl rfl rfl rfl rfl (RV.of (by intro _ _ h; cases h) (.inl rfl) (fun _ xd => HV.ld rfl va4 (rdc_ext xd (cells_first (hC19.ext X5) rfl)))) ?_
      refine Dr.read 8 _ 24 _ rfl rfl rfl rfl rfl (RV.of (by intro _ _ h; cases h) (.inl rfl) (fun _ xd => HV.neb Try.underlying4 rfl rfl)) ?_
      refine Dr.fin rfl ?_
      refine nrm_and ?_
      refine AW.cond rfl (fun c21 => ?_) (fun c21 => ?_)
      · -- then
        refine AW.rs ?_
        refine AL.val rfl (.inl rfl) (HV.as rfl) ?_
        refine AL.nx ?_
        refine AW.ret ?_
        refine ret_blk (ret_and (ret_and (ret_blk (ret_and ?_))))
        refine post_one rfl rfl ?_ (.inr rfl)
        exact ⟨dec_f (fun e => by subst e; have g19 : l.getD i false = z8 := gd hz10 (by omega); have g23 : l.getD i false = z15 := gd hz17 (by omega); simp_all), X5⟩
      · -- else
        refine AW.skip ?_
        refine nrm_blk (nrm_and ?_)
        refine AW.reg ?_
        refine AL.val rfl (.inl rfl) (HV.add rfl rfl (by omega)) ?_
        refine AL.val rfl (.inl rfl) (HV.mv rfl) ?_
        refine AL.nil ?_
        refine nrm_and ?_
        exact ⟨i + 1, ⟨X5, by omega, fun j hj => by
      rcases Nat.lt_or_ge j i with h1 | h1
      · exact he j h1
      · obtain rfl : j = i := by omega
        have g19 : l.getD j false = z8 := gd hz10 (by omega); have g23 : m.getD j false = z15 := gd hz17 (by omega); simp_all, trivial⟩, by first | omega | (dsimp only; omega), ⟨rfl, rfl, rfl, rfl, trivial⟩⟩
    · -- else
      refine AW.exit ?_
      refine ex_and (ex_and (ex_blk ?_))
      refine nrm_and ?_
      refine AW.rs ?_
      refine AL.val rfl (.inl rfl) (HV.as rfl) ?_
      refine AL.nx ?_
      refine AW.ret ?_
      refine post_one rfl rfl ?_ (.inr rfl)
      exact ⟨dec_t (list_eq (by omega) (fun j hj => he j (by omega))), X5⟩

set_option maxRecDepth 100000 in
theorem spread_ok {v : Value} {g : List Int} {ok : Nat → Prop} (q : Nat) (hr : RdK kI W H ok v g) (hg : ∀ x ∈ g, 0 ≤ x ∧ x < 7) (hl : g.length ≤ 7) (hq : q < 128) : ACalls Try.prog W 101 #[v, .int .u64 (q : Int)] H (fun r H' => r = .int .u64 ((spr g q g.length : Nat) : Int) ∧ Ext H H') := by
  refine ACalls.of (args := [v, .int .u64 (q : Int)]) Try.func101 rfl rfl ?_
  have X0 := Ext.refl H
  have hm1 := hr.max
  refine AW.rs ?_
  refine AL.val rfl (.inl rfl) (HV.as rfl) ?_
  refine AL.nx ?_
  refine AW.rs ?_
  refine AL.val rfl (.inl rfl) (HV.as rfl) ?_
  refine AL.nx ?_
  refine AW.seq ?_
  refine AW.rs ?_
  refine AL.val rfl (.inl rfl) (HV.mv rfl) ?_
  refine AL.val rfl (.inl rfl) (HV.len Try.underlying25 rfl hr.isSl) ?_
  refine AL.val rfl (.inl rfl) (HV.mv rfl) ?_
  refine AL.nx ?_
  refine AW.block ?_
  refine AW.loop (σ := Nat × Int) (fun ⟨i, a⟩ => [(1, .int .u64 (q : Int)), (4, .int .u64 0), (8, v), (9, .int .i64 (g.length : Int)), (5, .int .u64 a), (10, .int .i64 (i : Int))]) (fun ⟨i, a⟩ H' => Ext H H' ∧ i ≤ g.length ∧ a = ((spr g q i : Nat) : Int) ∧ True) (fun ⟨i, a⟩ => g.length - i) (0, 0) ⟨X0, Nat.zero_le _, rfl, trivial⟩ ⟨rfl, rfl, rfl, rfl, rfl, rfl, trivial⟩ ?_
  rintro ⟨i, a⟩ H2 ⟨X3, hi, ha, _⟩
  refine AW.rs ?_
  refine AL.val rfl (.inl rfl) (HV.lti rfl rfl) ?_
  refine AL.nx ?_
  refine AW.seq ?_
  refine AW.ifd rfl (fun c4 => ?_) (fun c4 => ?_)
  · -- then
    refine AW.skip ?_
    refine nrm_and ?_
    refine AW.seq ?_
    refine AW.block ?_
    refine AW.rs ?_
    refine AL.val rfl (.inl rfl) (HV.mv rfl) ?_
    obtain ⟨p5, z6, cs7, hz8, hK9, hC10, hP11⟩ := RdK.ix (q := (i : Int)) hr sl25 (by omega) (by omega)
    obtain rfl : cs7 = [.int .i64 z6] := hK9
    refine AL.val rfl (.inl rfl) (hP11 rfl rfl) ?_
    refine AL.val rfl (.inl rfl) (HV.ld rfl va2 (cells_first (hC10.ext X3) rfl)) ?_
    refine AL.val rfl (.inl rfl) (HV.as rfl) ?_
    refine AL.val rfl (.inl rfl) (HV.as rfl) ?_
    refine AL.nx ?_
    refine AW.rs ?_
    refine AL.val rfl (.inl rfl) (HV.mv rfl) ?_
    refine AL.val rfl (.inl rfl) (HV.mv rfl) ?_
    refine AL.w rfl (.inl rfl) (WV.call fn66 rfl (has_ok (W := W) q i hq (by omega))) ?_
    rintro _ H12 ⟨rfl, hx13⟩
    have X14 := Ext.trans X3 hx13
    refine AL.nx ?_
    refine AW.ifd rfl (fun c15 => ?_) (fun c15 => ?_)
    · -- then
      refine AW.reg ?_
      refine AL.val rfl (.inl rfl) (HV.mv rfl) ?_
      refine AL.val rfl (.inl rfl) (HV.mv rfl) ?_
      refine AL.val rfl (.inl rfl) (HV.shl rfl rfl (hg _ (List.mem_of_getElem? hz8)).1) ?_
      refine AL.val rfl (.inl rfl) (HV.bits (by simp) rfl rfl) ?_
      refine AL.val rfl (.inl rfl) (HV.as rfl) ?_
      refine AL.nil ?_
      refine nrm_blk (nrm_and ?_)
      refine AW.reg ?_
      refine AL.val rfl (.inl rfl) (HV.add rfl rfl (by omega)) ?_
      refine AL.val rfl (.inl rfl) (HV.mv rfl) ?_
      refine AL.nil ?_
      refine nrm_and ?_
      exact ⟨(i + 1, bt .or .u64 a (IntKind.u64.wrap (1 * 2 ^ min (z6 : Int).toNat IntKind.u64.bits))), ⟨X14, by omega, by rw [spr_succ, if_pos (by assumption), gd hz8 rfl, ha]; exact or_z (spr_128 hg i) (hg _ (List.mem_of_getElem? hz8)), trivial⟩, by first | omega | (dsimp only; omega), ⟨rfl, rfl, rfl, rfl, rfl, rfl, trivial⟩⟩
    · -- else
      refine AW.skip ?_
      refine nrm_blk (nrm_and ?_)
      refine AW.reg ?_
      refine AL.val rfl (.inl rfl) (HV.add rfl rfl (by omega)) ?_
      refine AL.val rfl (.inl rfl) (HV.mv rfl) ?_
      refine AL.nil ?_
      refine nrm_and ?_
      exact ⟨(i + 1, a), ⟨X14, by omega, by rw [spr_succ, if_neg (by assumption)]; exact ha, trivial⟩, by first | omega | (dsimp only; omega), ⟨rfl, rfl, rfl, rfl, rfl, rfl, trivial⟩⟩
  · -- else
    refine AW.exit ?_
    refine ex_and (ex_and (ex_blk ?_))
    refine nrm_and ?_
    refine AW.rs ?_
    refine AL.val rfl (.inl rfl) (HV.mv rfl) ?_
    refine AL.val rfl (.inl rfl) (HV.as rfl) ?_
    refine AL.nx ?_
    refine AW.ret ?_
    refine post_one rfl rfl ?_ (.inr rfl)
    exact ⟨by obtain rfl : i = g.length := (by omega); rw [ha], X3⟩

set_option maxRecDepth 100000 in
theorem everybody0_ok {n : Int} (hn : 0 ≤ n ∧ n ≤ 7) : ACalls Try.prog W 65 #[.int .i64 n] H (fun r H' => r = .int .u64 (((2 ^ n.toNat : Nat) : Int) - 1) ∧ Ext H H') := by
  refine ACalls.of (args := [.int .i64 n]) Try.func65 rfl rfl ?_
  have X0 := Ext.refl H
  refine AW.rs ?_
  refine AL.val rfl (.inl rfl) (HV.as rfl) ?_
  refine AL.nx ?_
  refine AW.rs ?_
  refine AL.val rfl (.inl rfl) (HV.mv rfl) ?_
  refine AL.val rfl (.inl rfl) (HV.shl rfl rfl (by omega)) ?_
  refine AL.val rfl (.inl rfl) (HV.subw rfl rfl) ?_
  refine AL.val rfl (.inl rfl) (HV.as rfl) ?_
  refine AL.nx ?_
  refine AW.ret ?_
  refine post_one rfl rfl ?_ (.inr rfl)
  exact ⟨congrArg (Value.int .u64) (by
    have : n = 0 ∨ n = 1 ∨ n = 2 ∨ n = 3 ∨ n = 4 ∨ n = 5 ∨ n = 6 ∨ n = 7 := by omega
    rcases this with rfl | rfl | rfl | rfl | rfl | rfl | rfl | rfl <;> rfl), X0⟩

set_option maxRecDepth 100000 in
theorem group_ok (q : Nat) (hq : q < 128) : ACalls Try.prog W 133 #[.int .u64 (q : Int)] H (fun r H' => Ext H H' ∧ OwnK kI 2 W H' (fun b => H.bd ≤ b) r (grpL q 7)) := by
  refine ACalls.of (args := [.int .u64 (q : Int)]) Try.func133 rfl rfl ?_
  have X0 := Ext.refl H
  refine AW.rs ?_
  refine AL.val rfl (.inl rfl) (HV.as rfl) ?_
  refine AL.nx ?_
  refine AW.rs ?_
  have o1 := X0.bd
  refine AL.w rfl (.inl rfl) (WV.bsK (K := kI) (l := ([] : List Int)) (css := []) sl25 rfl rfl (by first | rfl | (simp [Instr.fill, Value.cells, kI, kB, kU, kS, Kd.sc]; done) | (simp [Instr.fill, Value.cells, kI, kB, kU, kS, Kd.sc, rng1, rng2, rng3, rng4, kP])) rfl segs_nil) ?_
  rintro v2 H3 ⟨hx4, ho5⟩
  have X6 := Ext.trans X0 hx4
  refine AL.val rfl (.inl rfl) (HV.as rfl) ?_
  refine AL.nx ?_
  refine AW.seq ?_
  refine AW.rs ?_
  refine AL.val rfl (.inl rfl) (HV.as rfl) ?_
  refine AL.nx ?_
  refine AW.block ?_
  refine AW.loop (σ := Nat × Value × List Int) (fun ⟨h, vv, k⟩ => [(0, .int .u64 (q : Int)), (2, (.slice none 0 0)), (3, vv), (4, .int .i64 (h : Int))]) (fun ⟨h, vv, k⟩ H' => Ext H H' ∧ h ≤ 7 ∧ k = grpL q h ∧ k.length ≤ h ∧ OwnK kI 2 W H' (fun b => H.bd ≤ b) vv k ∧ True) (fun ⟨h, vv, k⟩ => 7 - h) (0, v2, (([] : List Int) : List Int)) ⟨X6, by omega, rfl, Nat.le_refl _, ho5, trivial⟩ ⟨rfl, rfl, rfl, rfl, trivial⟩ ?_
  rintro ⟨h, vv, k⟩ H8 ⟨X9, hh, hk, hk2, hoL, _⟩
  refine AW.seq ?_
  refine AW.rs ?_
  refine AL.val rfl (.inl rfl) (HV.mv rfl) ?_
  refine AL.val rfl (.inl rfl) (HV.lti rfl rfl) ?_
  refine AL.nx ?_
  refine AW.ifd rfl (fun c10 => ?_) (fun c10 => ?_)
  · -- then
    refine AW.skip ?_
    refine nrm_and ?_
    refine AW.seq ?_
    refine AW.block ?_
    refine AW.rs ?_
    refine AL.val rfl (.inl rfl) (HV.mv rfl) ?_
    refine AL.val rfl (.inl rfl) (HV.mv rfl) ?_
    refine AL.w rfl (.inl rfl) (WV.call fn66 rfl (has_ok (W := W) q h hq (by omega))) ?_
    rintro _ H11 ⟨rfl, hx12⟩
    have X13 := Ext.trans X9 hx12
    have ho14 := hoL.ext hx12
    refine AL.nx ?_
    refine AW.ifd rfl (fun c15 => ?_) (fun c15 => ?_)
    · -- then
      refine AW.reg ?_
      refine AL.val rfl (.inl rfl) (HV.mv rfl) ?_
      refine AL.val rfl (.inl rfl) (HV.mv rfl) ?_
      have X16 := Ext.refl H11
      have o17 := X13.bd
      have o18 := X16.bd
      have a19 := ho14.ltb
      refine AL.w rfl (.inl rfl) (WV.bsK (K := kI) (l := ([(h : Int)] : List Int)) (css := [[.int .i64 (h : Int)]]) sl25 rfl rfl (by first | rfl | (simp [Instr.fill, Value.cells, kI, kB, kU, kS, Kd.sc]; done) | (simp [Instr.fill, Value.cells, kI, kB, kU, kS, Kd.sc, rng1, rng2, rng3, rng4, kP])) rfl (segs_cons rfl segs_nil)) ?_
      rintro v20 H21 ⟨hx22, ho23⟩
      have X24 := Ext.trans X13 hx22
      have X25 := Ext.trans X16 hx22
      have ho26 := ho14.ext hx22
      have X28 := Ext.refl H21
      refine AL.w rfl (.inl rfl) (WV.apk sl25 rfl rfl ho26 ho23.rd (by rw [List.length_singleton]; omega) (by rw [List.length_singleton]; omega) (fun b hb _ e => Nat.lt_irrefl _ (Nat.lt_of_lt_of_le (a19 b e) hb))) ?_
      rintro v29 H30 ⟨hx31, ho32, hb33⟩
      have ho34 := ho32.narrow (ok' := fun b => H.bd ≤ b) kI_flat (fun b q => (hb33 b q).elim (fun e => (ho26.blk b e).1) (fun e => Nat.le_trans X24.bd e))
      have X35 := Ext.thru X24 hx31 (fun b hb => Nat.le_trans o1 (ho26.blk b hb).1)
      refine AL.val rfl (.inl rfl) (HV.as rfl) ?_
      refine AL.nil ?_
      refine nrm_blk (nrm_and ?_)
      refine AW.reg ?_
      refine AL.val rfl (.inl rfl) (HV.mv rfl) ?_
      refine AL.val rfl (.inl rfl) (HV.add rfl rfl (by omega)) ?_
      refine AL.val rfl (.inl rfl) (HV.as rfl) ?_
      refine AL.nil ?_
      refine nrm_and ?_
      exact ⟨(h + 1, v29, (k ++ (([(h : Int)] : List Int) : List Int))), ⟨X35, by omega, by rw [grpL_succ, if_pos (by assumption), hk], by first | omega | (rw [List.length_append]; simp; omega), ho34, trivial⟩, by first | omega | (dsimp only; omega), ⟨rfl, rfl, rfl, rfl, trivial⟩⟩
    · -- else
      refine AW.skip ?_
      refine nrm_blk (nrm_and ?_)
      refine AW.reg ?_
      refine AL.val rfl (.inl rfl) (HV.mv rfl) ?_
      refine AL.val rfl (.inl rfl) (HV.add rfl rfl (by omega)) ?_
      refine AL.val rfl (.inl rfl) (HV.as rfl) ?_
      refine AL.nil ?_
      refine nrm_and ?_
      exact ⟨(h + 1, vv, k), ⟨X13, by omega, by rw [grpL_succ, if_neg (by assumption), hk, List.append_nil], by first | omega | (rw [List.length_append]; simp; omega), ho14, trivial⟩, by first | omega | (dsimp only; omega), ⟨rfl, rfl, rfl, rfl, trivial⟩⟩
  · -- else
    refine AW.exit ?_
    refine ex_and (ex_and (ex_blk ?_))
    refine nrm_and ?_
    refine AW.rs ?_
    refine AL.val rfl (.inl rfl) (HV.mv rfl) ?_
    refine AL.val rfl (.inl rfl) (HV.as rfl) ?_
    refine AL.nx ?_
    refine AW.ret ?_
    refine post_one rfl rfl ?_ (.inr rfl)
    exact ⟨X9, by obtain rfl : h = 7 := (by omega); subst hk; exact hoL.okk (fun b hb _ => Nat.le_trans o1 hb)⟩

set_option maxRecDepth 100000 in
theorem others_ok {v : Value} {g : List Int} {ok : Nat → Prop} (n : Int) (hr : RdK kI W H ok v g) (hn : 1 ≤ n ∧ n ≤ 7) (hg : Ris 0 (n - 1) g) : ACalls Try.prog W 99 #[.int .i64 n, v] H (fun r H' => Ext H H' ∧ OwnK kI 2 W H' (fun b => H.bd ≤ b) r (grpL (2 ^ n.toNat - 1 - bitN g) 7)) := by
  refine ACalls.of (args := [.int .i64 n, v]) Try.func99 rfl rfl ?_
  have X0 := Ext.refl H
  have hm1 := hr.max
  refine AW.rs ?_
  refine AL.val rfl (.inl rfl) (HV.as rfl) ?_
  refine AL.nx ?_
  refine AW.rs ?_
  refine AL.val rfl (.inl rfl) (HV.mv rfl) ?_
  refine AL.w rfl (.inl rfl) (WV.call fn65 rfl (everybody0_ok (W := W) (n := n) (by omega))) ?_
  rintro _ H2 ⟨rfl, hx3⟩
  have X4 := Ext.trans X0 hx3
  refine AL.val rfl (.inl rfl) (HV.mv rfl) ?_
  refine AL.w rfl (.inl rfl) (WV.call fn57 rfl (crowdOf_ok (hr.ext X4) (ris_low hn hg))) ?_
  rintro _ H5 ⟨rfl, hx6⟩
  have X7 := Ext.trans X4 hx6
  refine AL.val rfl (.inl rfl) (HV.bits (by simp) rfl rfl) ?_
  rw [andn hn hg]
  have X8 := Ext.refl H5
  have o9 := X7.bd
  have o10 := X8.bd
  refine AL.w rfl (.inl rfl) (WV.call fn133 rfl (group_ok (2 ^ n.toNat - 1 - bitN g) (by have := pow7 hn; omega))) ?_
  rintro v11 H12 ⟨hx13, ho14⟩
  have X15 := Ext.trans X7 hx13
  have X16 := Ext.trans X8 hx13
  refine AL.val rfl (.inl rfl) (HV.as rfl) ?_
  refine AL.nx ?_
  refine AW.ret ?_
  refine post_one rfl rfl ?_ (.inr rfl)
  exact ⟨X15, ho14.okk (fun b hb _ => Nat.le_trans o9 hb)⟩

set_option maxRecDepth 100000 in
theorem answers_ok {v v2 : Value} {l : List (List Int)} {g : List Int} {ok ok2 : Nat → Prop} (n : Int) (q : Nat) (hr : RdK (kR kI) W H ok v l) (hr2 : RdK kI W H ok2 v2 g) (hok : okC n l) (hg : ∀ x ∈ g, 0 ≤ x ∧ x < n) (hl : g.length ≤ 7) (hq : q < 2 ^ n.toNat) : ACalls Try.prog W 100 #[.agg #[.int .i64 n, v], v2, .int .u64 (q : Int)] H (fun r H' => Ext H H' ∧ OwnK kB 4 W H' (fun b => H.bd ≤ b) r (ansL l g q (2 ^ g.length))) := by
  refine ACalls.of (args := [.agg #[.int .i64 n, v], v2, .int .u64 (q : Int)]) Try.func100 rfl rfl ?_
  have X0 := Ext.refl H
  have hm1 := hr.max
  have hm2 := hr2.max
  have p7 := pow7 hok.1
  have hn := hok.1
  have hl2 : 2 ^ g.length ≤ 2 ^ 7 := Nat.pow_le_pow_right (by decide) hl
  have hg7 : ∀ x ∈ g, 0 ≤ x ∧ x < 7 := fun x hx => by have := hg x hx; omega
  obtain ⟨M, hM⟩ : ∃ M : Nat, 2 ^ g.length = M := ⟨_, rfl⟩
  refine AW.rs ?_
  refine AL.w rfl (.inl rfl) (WV.bx rfl rfl) ?_
  rintro _ H4 ⟨b3, rfl, hx5, hn6, hb7⟩
  have o8 := Nat.le_trans X0.bd hn6
  have X9 := Ext.trans X0 hx5
  have X10 := Ext.refl H4
  refine AL.val rfl (.inl rfl) (HV.as rfl) ?_
  refine AL.nx ?_
  refine AW.rs ?_
  have y11 := hb7.lt
  have o12 := X9.bd
  have o13 := X10.bd
  refine AL.w rfl (.inl rfl) (WV.bsK (K := kB) (l := ([] : List Bool)) (css := []) sl81 rfl rfl (by first | rfl | (simp [Instr.fill, Value.cells, kI, kB, kU, kS, Kd.sc]; done) | (simp [Instr.fill, Value.cells, kI, kB, kU, kS, Kd.sc, rng1, rng2, rng3, rng4, kP])) rfl segs_nil) ?_
  rintro v14 H15 ⟨hx16, ho17⟩
  have X18 := Ext.trans X9 hx16
  have X19 := Ext.trans X10 hx16
  have hb20 := hb7.ext hx16
  refine AL.val rfl (.inl rfl) (HV.as rfl) ?_
  refine AL.nx ?_
  refine AW.seq ?_
  refine AW.rs ?_
  refine AL.val rfl (.inl rfl) (HV.as rfl) ?_
  refine AL.nx ?_
  refine AW.block ?_
  refine AW.loop (σ := Nat × Value × List Bool) (fun ⟨i, vv, kt⟩ => [(1, v2), (2, .int .u64 (q : Int)), (3, .pointer (some ⟨b3, 0, none⟩)), (6, (.slice none 0 0)), (7, vv), (8, .int .u64 (i : Int))]) (fun ⟨i, vv, kt⟩ H' => Ext H H' ∧ Ext H4 H' ∧ At W H' b3 ⟨42, [.int .i64 n, v], 2⟩ ∧ i ≤ M ∧ kt = ansL l g q i ∧ kt.length = i ∧ OwnK kB 4 W H' (fun b => H4.bd ≤ b) vv kt ∧ True) (fun ⟨i, vv, kt⟩ => M - i) (0, v14, (([] : List Bool) : List Bool)) ⟨X18, X19, hb20, Nat.zero_le _, rfl, rfl, ho17, trivial⟩ ⟨rfl, rfl, rfl, rfl, rfl, rfl, trivial⟩ ?_
  rintro ⟨i, vv, kt⟩ H22 ⟨X23, X24, hb25, hi, hkt, hkl, hoT, _⟩
  refine AW.seq ?_
  refine AW.rs ?_
  refine AL.val rfl (.inl rfl) (HV.mv rfl) ?_
  refine AL.val rfl (.inl rfl) (HV.mv rfl) ?_
  refine AL.val rfl (.inl rfl) (HV.len Try.underlying25 rfl hr2.isSl) ?_
  refine AL.w rfl (.inl rfl) (WV.call fn65 rfl (everybody0_ok (W := W) (n := (g.length : Int)) (by omega))) ?_
  rintro _ H26 ⟨rfl, hx27⟩
  have X28 := Ext.trans X23 hx27
  have X29 := Ext.trans X24 hx27
  have ho30 := hoT.ext hx27
  have hb31 := hb25.ext hx27
  refine AL.val rfl (.inl rfl) (HV.lei rfl rfl) ?_
  refine AL.nx ?_
  refine AW.ifd rfl (fun c32 => ?_) (fun c32 => ?_)
  · -- then
    refine AW.skip ?_
    refine nrm_and ?_
    refine AW.seq ?_
    refine AW.block ?_
    refine AW.draw' [0, 0, 0, 0, 0, 24, 60, 126, 254, 511, 1023] mixed (by rfl) ?_
    refine Dr.read 0 _ 17 _ rfl rfl rfl rfl rfl (RV.of (by intro _ _ h; cases h) (.inl rfl) (fun _ xd => HV.mv rfl)) ?_
    refine Dr.read 1 _ 18 _ rfl rfl rfl rfl rfl (RV.of (by intro _ _ h; cases h) (.inl rfl) (fun _ xd => HV.lda (cs := [.int .i64 n, v]) rfl va42 (fun j u hu => rdc_ext xd ((at_cells hb31 rfl) j u hu)))) ?_
    refine Dr.read 2 _ 19 _ rfl rfl rfl rfl rfl (RV.of (by intro _ _ h; cases h) (.inl rfl) (fun _ xd => HV.mv rfl)) ?_
    refine Dr.read 3 _ 20 _ rfl rfl rfl rfl rfl (RV.of (by intro _ _ h; cases h) (.inl rfl) (fun _ xd => HV.mv rfl)) ?_
    refine Dr.read 4 _ 21 _ rfl rfl rfl rfl rfl (RV.of (by intro _ _ h; cases h) (.inl rfl) (fun _ xd => HV.mv rfl)) ?_
    refine Dr.eff 5 _ _ rfl (by intro d h; cases h; exact ⟨rfl, rfl⟩) rfl rfl rfl (EC.of (by intro _ _ h; cases h) (.inl rfl) (WV.call fn101 rfl (spread_ok i (hr2.ext X28) hg7 hl (by rw [hM] at hl2; have : (i : Int) ≤ (((2 ^ (g.length : Int).toNat : Nat) : Int) - 1) := (by assumption); rw [Int.toNat_natCast, hM] at this; omega)))) (fun v H' h => .inl (h.2)) ?_
    rintro _ H33 ⟨rfl, hx34⟩
    have X35 := Ext.trans X28 hx34
    have X36 := Ext.trans X29 hx34
    have ho37 := ho30.ext hx34
    have hb38 := hb31.ext hx34
    refine Dr.read 6 _ 23 _ rfl rfl rfl rfl rfl (RV.of (by intro _ _ h; cases h) (.inl rfl) (fun _ xd => HV.bits (by simp) rfl rfl)) ?_
    rw [(bt_nat .u64 (.inr rfl) (show q < 128 by omega) (spr_128 hg7 _)).1]
    refine Dr.eff 7 _ _ rfl (by intro d h; cases h; exact ⟨rfl, rfl⟩) rfl rfl rfl (EC.of (by intro _ _ h; cases h) (.inl rfl) (WV.call fn64 rfl (opens_ok n (hr.ext X35) ((q ||| spr g i g.length : Nat) : Int) (okC_low hok)))) (fun v H' h => .inl (h.2)) ?_
    rintro _ H39 ⟨rfl, hx40⟩
    have X41 := Ext.trans X35 hx40
    have X42 := Ext.trans X36 hx40
    have ho43 := ho37.ext hx40
    have hb44 := hb38.ext hx40
    have X45 := Ext.refl H39
    have y46 := hb44.lt
    have o47 := X41.bd
    have o48 := X42.bd
    have o49 := X45.bd
    have a50 := ho43.ltb
    refine Dr.eff 8 _ _ rfl (by intro d h; cases h; exact ⟨rfl, rfl⟩) rfl rfl rfl (EC.of (by intro _ _ h; cases h) (.inl rfl) (WV.bsK (K := kB) (l := ([decide (opC ((q ||| spr g i g.length : Nat) : Int) l)] : List Bool)) (css := [[.bool (decide (opC ((q ||| spr g i g.length : Nat) : Int) l))]]) sl81 rfl rfl (by first | rfl | (simp [Instr.fill, Value.cells, kI, kB, kU, kS, Kd.sc]; done) | (simp [Instr.fill, Value.cells, kI, kB, kU, kS, Kd.sc, rng1, rng2, rng3, rng4, kP])) rfl (segs_cons rfl segs_nil))) (fun v H' h => .inl (h.1)) ?_
    rintro v51 H52 ⟨hx53, ho54⟩
    have X55 := Ext.trans X41 hx53
    have X56 := Ext.trans X42 hx53
    have X57 := Ext.trans X45 hx53
    have ho58 := ho43.ext hx53
    have hb59 := hb44.ext hx53
    have X61 := Ext.refl H52
    refine Dr.eff 9 _ _ rfl (by intro d h; cases h; exact ⟨rfl, rfl⟩) rfl rfl rfl (EC.of (by intro _ _ h; cases h) (.inl rfl) (WV.apk sl81 rfl rfl ho58 ho54.rd (by rw [List.length_singleton]; rw [hM] at hl2; omega) (by rw [List.length_singleton]; rw [hM] at hl2; omega) (fun b hb _ e => Nat.lt_irrefl _ (Nat.lt_of_lt_of_le (a50 b e) hb)))) (fun v H' h => .inr (.inl rfl)) ?_
    rintro v62 H63 ⟨hx64, ho65, hb66⟩
    have ho67 := ho65.narrow (ok' := fun b => H4.bd ≤ b) kB_flat (fun b q => (hb66 b q).elim (fun e => (ho58.blk b e).1) (fun e => Nat.le_trans X56.bd e))
    have X68 := Ext.thru X55 hx64 (fun b hb => Nat.le_trans o12 (ho58.blk b hb).1)
    have X69 := Ext.thru X56 hx64 (fun b hb => Nat.le_trans o13 (ho58.blk b hb).1)
    have hb73 := hb59.but hx64 (fun e => by have q : H4.bd ≤ _ := (ho58.blk _ e).1; omega)
    refine Dr.eff 10 _ _ rfl (by intro d h; cases h; exact ⟨rfl, rfl⟩) rfl rfl rfl (EC.of (by intro _ _ h; cases h) (.inl rfl) (WV.ofHV (HV.as rfl))) (fun v H' h => .inl (h.2 ▸ Ext.refl _)) ?_
    rintro u_ h_ ⟨e1_, e2_⟩
    rw [e1_, e2_]
    clear e1_ e2_ u_ h_
    refine Dr.fin rfl ?_
    refine nrm_blk (nrm_and ?_)
    refine AW.reg ?_
    refine AL.val rfl (.inl rfl) (HV.mv rfl) ?_
    refine AL.val rfl (.inl rfl) (HV.addu rfl rfl (by rw [hM] at hl2; omega)) ?_
    refine AL.val rfl (.inl rfl) (HV.as rfl) ?_
    refine AL.nil ?_
    refine nrm_and ?_
    have hiM : i < M := by have c : (i : Int) ≤ (((2 ^ (g.length : Int).toNat : Nat) : Int) - 1) := (by assumption); rw [Int.toNat_natCast, hM] at c; omega
    exact ⟨(i + 1, v62, (kt ++ (([decide (opC ((q ||| spr g i g.length : Nat) : Int) l)] : List Bool) : List Bool))), ⟨X68, X69, hb73, by omega, by rw [ansL_succ, hkt]; exact congrArg (fun b => ansL l g q i ++ [b]) (decide_eq_decide.2 (opN hok (Nat.or_lt_two_pow hq (spr_lt (m := n.toNat) (fun x hx => by have := hg x hx; omega) (by omega) _))).symm), by simp [hkl], ho67, trivial⟩, by first | omega | (dsimp only; omega), ⟨rfl, rfl, rfl, rfl, rfl, rfl, trivial⟩⟩
  · -- else
    refine AW.exit ?_
    refine ex_and (ex_and (ex_blk ?_))
    refine nrm_and ?_
    refine AW.rs ?_
    refine AL.val rfl (.inl rfl) (HV.mv rfl) ?_
    refine AL.val rfl (.inl rfl) (HV.as rfl) ?_
    refine AL.nx ?_
    refine AW.ret ?_
    refine post_one rfl rfl ?_ (.inr rfl)
    exact ⟨X28, by obtain rfl : i = M := (by have c := c32; rw [Int.toNat_natCast, hM] at c; omega); subst hkt; rw [hM]; exact ho30.okk (fun b hb _ => Nat.le_trans o12 hb)⟩
end Go.Proofs.Ytbjcgcililpfdaa.VC
