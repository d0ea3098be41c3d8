/- Walks. -/
import Derived.Test.YticobjbjejpomaaVF5
set_option linter.unusedVariables false
set_option linter.unusedSimpArgs false
namespace Go.Proofs.Yticobjbjejpomaa.VC
open Go Go.RowKit
theorem turn_len (l : List (List Int)) (C : Nat) : (turnL l C).length = C := by simp [turnL]
theorem turn_get {l : List (List Int)} {C c : Nat} (h : c < C) : (turnL l C).getD c [] = colT l c := by simp [turnL, List.getD_eq_getElem?_getD, h]
theorem turn_succ (l : List (List Int)) (c : Nat) : turnL l (c + 1) = turnL l c ++ [colT l c] := by
  unfold turnL
  rw [List.range_succ, List.map_append]; rfl
theorem turn_rect {p : Int} {K : Nat} {l : List (List Int)} (hp : 0 < p) (h : rect p K l) : rect p l.length (turnL l K) := fun c hc => by
  rw [turn_len] at hc
  rw [turn_get hc]
  refine ⟨by simp [colT], fun j hj => ?_⟩
  rw [colT_get]
  exact rect_el hp h (by simpa [colT] using hj) c
theorem bes_turn (l : List (List Int)) (tg : List Int) (K : Nat) : besL (turnL l K) [tg] (turnL l K).length = wideT l tg K := by
  rw [turn_len]
  apply list_eq (d := []) (by rw [besL_len, wideT_len])
  intro c hc
  rw [besL_len] at hc
  rw [besL_get hc, bes_one, turn_get hc, wideT_get hc]
theorem comb_sol {p : Int} {K : Nat} {l : List (List Int)} {tg : List Int} (hq : isPr p = true) (hK : 0 < K) (h : rect p K l) (ht : elems p tg) (htl : tg.length = K) : solM p l.length (besL (turnL l K) [tg] (turnL l K).length) = combI p l tg := by
  rw [bes_turn]; exact (comb_eq hq hK h ht htl).symm
theorem combI_in {p : Int} {K : Nat} {l : List (List Int)} {tg : List Int} (hq : isPr p = true) (hK : 0 < K) (h : rect p K l) (ht : elems p tg) (htl : tg.length = K) : elems p (combI p l tg).1 ∧ ((combI p l tg).2 = true → (combI p l tg).1.length = l.length) ∧ (combI p l tg).1.length ≤ l.length := by
  obtain ⟨h1, h2⟩ := combI_end hq hK h ht htl
  cases e : (combI p l tg).2 with
  | true => exact ⟨(h1 e).2.1, fun _ => (h1 e).1, Nat.le_of_eq (h1 e).1⟩
  | false => rw [(h2 e).1]; exact ⟨fun j hj => absurd hj (Nat.not_lt_zero _), fun q => absurd q (by simp), Nat.zero_le _⟩
theorem unitL_len (m i : Nat) : (unitL m i).length = m := by simp [unitL]
def openX (p k : Int) (o : List Int) (l : List (List Int)) (g : List Int) : List Int × Bool := combI p (partL l (idxG o g)) (unitL k.toNat 0)
noncomputable def soB (n : Int) (o : List Int) (p k : Int) (l : List (List Int)) (g : List Int) : Bool := if askC n o p k l g = 0 then (openX p k o l g).2 else false
noncomputable def oeC (n : Int) (o : List Int) (p k : Int) (l : List (List Int)) (g : List Int) : Int := if askC n o p k l g = 0 then if (openX p k o l g).2 = true then 0 else 6 else askC n o p k l g
noncomputable def oeL (n : Int) (o : List Int) (p k : Int) (l : List (List Int)) (g : List Int) : List Int := if askC n o p k l g = 0 then if (openX p k o l g).2 = true then (openX p k o l g).1 else [] else []
def dotI (a b : List Int) (j : Nat) : Int := (List.range j).foldl (fun s i => s + a.getD i 0 * b.getD i 0) 0
theorem dotI_succ (a b : List Int) (j : Nat) : dotI a b (j + 1) = dotI a b j + a.getD j 0 * b.getD j 0 := by
  unfold dotI
  rw [List.range_succ, List.foldl_append]; rfl
theorem dotI_in {p : Int} {a b : List Int} (hp : 2 ≤ p ∧ p ≤ 31) (ha : elems p a) (hb : elems p b) : ∀ j : Nat, 0 ≤ dotI a b j ∧ dotI a b j ≤ 961 * j
  | 0 => by simp [dotI]
  | j + 1 => by
    have h := dotI_in hp ha hb j
    have h1 := getD_in ha (show 0 < p by omega) j
    have h2 := getD_in hb (show 0 < p by omega) j
    have h3 := mul31 (a := a.getD j 0) (b := b.getD j 0) (by omega) (by omega) (by omega) (by omega)
    rw [dotI_succ]; omega
noncomputable def rbC (n : Int) (o : List Int) (p k : Int) (l : List (List Int)) (g h : List Int) : Int := if withC n o p k l g h = 0 then if (openX p k o l g).2 = true then if conB n o p k l g h = true then 0 else 4 else 6 else withC n o p k l g h
noncomputable def rbV (n : Int) (o : List Int) (p k : Int) (l : List (List Int)) (g h : List Int) : Int := if withC n o p k l g h = 0 ∧ (openX p k o l g).2 = true ∧ conB n o p k l g h = true then dotI (openX p k o l g).1 h (openX p k o l g).1.length % p else 0
theorem ScF.opn {n : Int} {o : List Int} {p k : Int} {l : List (List Int)} (h : ScF n o p k l) (g : List Int) : elems p (openX p k o l g).1 ∧ ((openX p k o l g).2 = true → (openX p k o l g).1.length = (idxG o g).length) ∧ (openX p k o l g).1.length ≤ 20 := by
  obtain ⟨h1, h2, _⟩ := h.part g
  have h3 := combI_in h.q (show 0 < k.toNat by have := h.k1; omega) h1 (unitL_in h.pb.1 k.toNat 0) (unitL_len _ _)
  rw [partL_len] at h3
  exact ⟨h3.1, h3.2.1, by have := h3.2.2; unfold openX; omega⟩
theorem oeL_len {n : Int} {o : List Int} {p k : Int} {l : List (List Int)} {g : List Int} : (oeL n o p k l g).length ≤ 20 := by
  unfold oeL
  split
  · rename_i h
    split
    · exact ((okSc_f (askC_z h).1).opn g).2.2
    · exact Nat.zero_le _
  · exact Nat.zero_le _
theorem bnot_f {b : Bool} (h : (!b) = false) : b = true := by cases b <;> simp_all
theorem bnot_t {b : Bool} (h : (!b) = true) : b = false := by cases b <;> simp_all
variable {W : World} {H : Hp}

set_option maxRecDepth 100000 in
theorem turned_ok {ad : Addr} {v : Value} {l : List (List Int)} {ok : Nat → Prop} (p k : Int) (hr : RdK (kR kI) W H ok v l) (hc : Cells W H ad [.int .i64 p, .int .i64 k, v]) {K : Nat} (hkK : k = (K : Int)) (hrc : rect p K l) (hK : K ≤ 40) (hR : l.length ≤ 40) : ACalls Try.prog W 91 #[.pointer (some ad)] H (fun r H' => (∃ u, r = .agg #[.int .i64 p, .int .i64 (l.length : Int), u] ∧ OwnD (kO 2 kI) 22 W H' (fun b => H.bd ≤ b) u (turnL l K)) ∧ Ext H H') := by
  refine ACalls.of (args := [.pointer (some ad)]) Try.func91 rfl rfl ?_
  have X0 := Ext.refl H
  have hmx := hr.max
  refine AW.rs ?_
  refine AL.w rfl (.inl rfl) (WV.al ze29 rfl) ?_
  rintro _ H2 ⟨b1, rfl, hx3, hn4, hb5⟩
  have o6 := Nat.le_trans X0.bd hn4
  have X7 := Ext.trans X0 hx3
  have X8 := Ext.refl H2
  refine AL.nx ?_
  refine AW.seq ?_
  refine AW.draw' [0, 1, 3, 7, 0, 16, 48, 112, 240, 511, 0, 2047] mixed (by rfl) ?_
  refine Dr.read 0 _ 7 _ rfl rfl rfl rfl rfl (RV.of (by intro _ _ h; cases h) (.inl rfl) (fun _ xd => HV.mv rfl)) ?_
  refine Dr.read 1 _ 8 _ rfl rfl rfl rfl rfl (RV.of (by intro _ _ h; cases h) (.inl rfl) (fun _ xd => HV.nc rfl)) ?_
  refine Dr.read 2 _ 9 _ rfl rfl rfl rfl rfl (RV.of (by intro _ _ h; cases h) (.inl rfl) (fun _ xd => HV.fa fl29_0 rfl)) ?_
  refine Dr.read 3 _ 10 _ rfl rfl rfl rfl rfl (RV.of (by intro _ _ h; cases h) (.inl rfl) (fun _ xd => HV.ld rfl va2 (rdc_ext xd (cells_first (hc.ext X7) rfl)))) ?_
  refine Dr.read 4 _ 11 _ rfl rfl rfl rfl rfl (RV.of (by intro _ _ h; cases h) (.inl rfl) (fun _ xd => HV.mv rfl)) ?_
  refine Dr.read 5 _ 12 _ rfl rfl rfl rfl rfl (RV.of (by intro _ _ h; cases h) (.inl rfl) (fun _ xd => HV.nc rfl)) ?_
  refine Dr.read 6 _ 13 _ rfl rfl rfl rfl rfl (RV.of (by intro _ _ h; cases h) (.inl rfl) (fun _ xd => HV.fa fl29_2 rfl)) ?_
  refine Dr.read 7 _ 14 _ rfl rfl rfl rfl rfl (RV.of (by intro _ _ h; cases h) (.inl rfl) (fun _ xd => HV.ld rfl va23 (rdc_ext xd (cells_at (hc.ext X7) rfl)))) ?_
  refine Dr.read 8 _ 15 _ rfl rfl rfl rfl rfl (RV.of (by intro _ _ h; cases h) (.inl rfl) (fun _ xd => HV.len Try.underlying23 rfl hr.isSl)) ?_
  refine Dr.read 9 _ 16 _ rfl rfl rfl rfl rfl (RV.of (by intro _ _ h; cases h) (.inl rfl) (fun _ xd => HV.bd rfl (bd29_0_1 p (l.length : Int)))) ?_
  refine Dr.eff 10 _ _ rfl (by intro d h; cases h; exact ⟨rfl, rfl⟩) rfl rfl rfl (EC.of (by intro _ _ h; cases h) (.inl rfl) (WV.al ze29 rfl)) (fun v H' h => .inl (h.choose_spec.2.1)) ?_
  rintro _ H10 ⟨b9, rfl, hx11, hn12, hb13⟩
  have o14 := Nat.le_trans X7.bd hn12
  have o15 := Nat.le_trans X8.bd hn12
  have ne16 : b1 ≠ b9 := by have := hb5.lt; omega
  have X17 := Ext.trans X7 hx11
  have X18 := Ext.trans X8 hx11
  have hb19 := hb5.ext hx11
  have X20 := Ext.refl H10
  refine Dr.eff 11 _ _ rfl (by intro d h; cases h) rfl rfl rfl (EC.of (by intro _ _ h; cases h) (.inl rfl) (WV.st rfl rfl va29 rfl hb13 (Nat.le_of_ble_eq_true rfl) (one_cons rfl (one_cons rfl (one_cons (sl_one1 ⟨none, 0, rfl⟩) one_nil))))) (fun v H' h => .inr (.inl rfl)) ?_
  rintro _ H21 ⟨hx22, hb23⟩
  have X24 := Ext.thru X17 hx22 (fun z_ hz_ => by rw [hz_]; exact o14)
  have X25 := Ext.thru X18 hx22 (fun z_ hz_ => by rw [hz_]; exact o15)
  have hb27 := hb19.but hx22 ne16
  have hb28 : At W H21 b9 ⟨29, [.int .i64 p, .int .i64 (l.length : Int), (.slice none 0 0)], 3⟩ := hb23
  refine Dr.fin rfl ?_
  refine nrm_and ?_
  refine AW.seq ?_
  refine AW.rs ?_
  refine AL.val rfl (.inl rfl) (HV.as rfl) ?_
  refine AL.nx ?_
  refine AW.block ?_
  have X29 := Ext.refl H21
  have y30 := hb27.lt
  have y31 := hb28.lt
  have o32 := X24.bd
  have o33 := X25.bd
  have o34 := X29.bd
  have ho35 : OwnD (kO 2 kI) 22 W H21 (fun b => H21.bd ≤ b) (.slice none 0 0) ([] : List (List Int)) := OwnD.nil _
  refine AW.loop (σ := Nat × Value) (fun ⟨i, vv⟩ => [(0, .pointer (some ad)), (2, .pointer (some ⟨b1, 0, none⟩)), (3, .pointer (some ⟨b9, 0, none⟩)), (4, .int .i64 (i : Int))]) (fun ⟨i, vv⟩ H' => Ext H H' ∧ Ext H2 H' ∧ At W H' b1 ⟨29, [.int .i64 0, .int .i64 0, (.slice none 0 0)], 3⟩ ∧ H21.bd ≤ H'.bd ∧ i ≤ K ∧ At W H' b9 ⟨29, [.int .i64 p, .int .i64 (l.length : Int), vv], 3⟩ ∧ OwnD (kO 2 kI) 22 W H' (fun b => H21.bd ≤ b) vv (turnL l i) ∧ True) (fun ⟨i, vv⟩ => K - i) (0, (.slice none 0 0)) ⟨X24, X25, hb27, X29.bd, Nat.zero_le _, hb28, ho35, trivial⟩ ⟨rfl, rfl, rfl, rfl, trivial⟩ ?_
  rintro ⟨i, vv⟩ H37 ⟨X38, X39, hb40, q41, hi, hbB, hoL, _⟩
  refine AW.seq ?_
  refine AW.rs ?_
  refine AL.val rfl (.inl rfl) (HV.mv rfl) ?_
  refine AL.val rfl (.inl rfl) (HV.mv rfl) ?_
  refine AL.val rfl (.inl rfl) (HV.nc rfl) ?_
  refine AL.val rfl (.inl rfl) (HV.fa fl29_1 rfl) ?_
  refine AL.val rfl (.inl rfl) (HV.ld rfl va2 (cells_at (hc.ext X38) rfl)) ?_
  refine AL.val rfl (.inl rfl) (HV.lti rfl rfl) ?_
  refine AL.nx ?_
  refine AW.ifd rfl (fun c42 => ?_) (fun c42 => ?_)
  · -- then
    refine AW.skip ?_
    refine nrm_and ?_
    refine AW.seq ?_
    refine AW.block ?_
    refine AW.rs ?_
    have X43 := Ext.refl H37
    have y44 := hb40.lt
    have y45 := hbB.lt
    have o46 := X38.bd
    have o47 := X39.bd
    have o48 := X43.bd
    have a49 := hoL.ltb
    have ho50 := hoL.okk (ok' := fun b => H21.bd ≤ b ∧ b < H37.bd) (fun b hb hlt => ⟨hb, hlt⟩)
    refine AL.w rfl (.inl rfl) (WV.bsK (K := kI) (l := ([] : List Int)) (css := []) sl22 rfl rfl (by first | rfl | (simp [Instr.fill, Value.cells, kI, kB, kU, kU8, kS, Kd.sc]; done) | (simp [Instr.fill, Value.cells, kI, kB, kU, kU8, kS, Kd.sc, rng1, rng2, rng3, rng4, kP])) rfl segs_nil) ?_
    rintro v51 H52 ⟨hx53, ho54⟩
    have q55 := Nat.le_trans q41 hx53.bd
    have X56 := Ext.trans X38 hx53
    have X57 := Ext.trans X39 hx53
    have X58 := Ext.trans X43 hx53
    have ho59 := ho50.ext hx53
    have hb60 := hb40.ext hx53
    have hb61 := hbB.ext hx53
    refine AL.val rfl (.inl rfl) (HV.as rfl) ?_
    refine AL.nx ?_
    refine AW.seq ?_
    refine AW.rs ?_
    refine AL.val rfl (.inl rfl) (HV.as rfl) ?_
    refine AL.nx ?_
    refine AW.block ?_
    refine AW.loop (σ := Nat × Value) (fun ⟨j, vr⟩ => [(0, .pointer (some ad)), (2, .pointer (some ⟨b1, 0, none⟩)), (3, .pointer (some ⟨b9, 0, none⟩)), (4, .int .i64 (i : Int)), (17, .int .i64 (i : Int)), (18, .pointer (some ad)), (19, .pointer (some ad)), (21, .int .i64 k), (22, .bool (decide ((i : Int) < k))), (25, v51), (5, vr), (6, .int .i64 (j : Int))]) (fun ⟨j, vr⟩ H' => Ext H H' ∧ Ext H2 H' ∧ Ext H37 H' ∧ At W H' b1 ⟨29, [.int .i64 0, .int .i64 0, (.slice none 0 0)], 3⟩ ∧ At W H' b9 ⟨29, [.int .i64 p, .int .i64 (l.length : Int), vv], 3⟩ ∧ H21.bd ≤ H'.bd ∧ j ≤ l.length ∧ OwnD (kO 2 kI) 22 W H' (fun b => H21.bd ≤ b ∧ b < H37.bd) vv (turnL l i) ∧ OwnK kI 2 W H' (fun b => H37.bd ≤ b) vr (colT (l.take j) i) ∧ True) (fun ⟨j, vr⟩ => l.length - j) (0, v51) ⟨X56, X57, X58, hb60, hb61, q55, Nat.zero_le _, ho59, ho54, trivial⟩ ⟨rfl, rfl, rfl, rfl, rfl, rfl, rfl, rfl, rfl, rfl, rfl, rfl, trivial⟩ ?_
    rintro ⟨j, vr⟩ H63 ⟨X64, X65, X66, hb67, hb68, q69, hj, hoG, hoR, _⟩
    refine AW.seq ?_
    refine AW.rs ?_
    refine AL.val rfl (.inl rfl) (HV.mv rfl) ?_
    refine AL.val rfl (.inl rfl) (HV.mv rfl) ?_
    refine AL.val rfl (.inl rfl) (HV.nc rfl) ?_
    refine AL.val rfl (.inl rfl) (HV.fa fl29_2 rfl) ?_
    refine AL.val rfl (.inl rfl) (HV.ld rfl va23 (cells_at (hc.ext X64) rfl)) ?_
    refine AL.val rfl (.inl rfl) (HV.len Try.underlying23 rfl hr.isSl) ?_
    refine AL.val rfl (.inl rfl) (HV.lti rfl rfl) ?_
    refine AL.nx ?_
    refine AW.ifd rfl (fun c70 => ?_) (fun c70 => ?_)
    · -- then
      refine AW.skip ?_
      refine nrm_and ?_
      refine AW.seq ?_
      refine AW.block ?_
      refine AW.reg ?_
      refine AL.val rfl (.inl rfl) (HV.mv rfl) ?_
      refine AL.val rfl (.inl rfl) (HV.mv rfl) ?_
      refine AL.val rfl (.inl rfl) (HV.nc rfl) ?_
      refine AL.val rfl (.inl rfl) (HV.fa fl29_2 rfl) ?_
      refine AL.val rfl (.inl rfl) (HV.ld rfl va23 (cells_at (hc.ext X64) rfl)) ?_
      refine AL.val rfl (.inl rfl) (HV.mv rfl) ?_
      obtain ⟨p71, z72, cs73, hz74, hK75, hC76, hP77⟩ := RdK.ix (q := (j : Int)) hr sl23 (by omega) (by omega)
      obtain ⟨v78, rfl, hr79⟩ := hK75
      have hm80 := hr79.max
      refine AL.val rfl (.inl rfl) (hP77 rfl rfl) ?_
      refine AL.val rfl (.inl rfl) (HV.ld rfl va22 (cells_first (hC76.ext X64) rfl)) ?_
      refine AL.val rfl (.inl rfl) (HV.mv rfl) ?_
      obtain ⟨p81, z82, cs83, hz84, hK85, hC86, hP87⟩ := RdK.ix (q := (i : Int)) hr79 sl22 (by omega) (by have := rect_at hrc hz74; omega)
      obtain rfl : cs83 = [.int .i64 z82] := hK85
      refine AL.val rfl (.inl rfl) (hP87 rfl rfl) ?_
      refine AL.val rfl (.inl rfl) (HV.ld rfl va2 (cells_first (hC86.ext X64) rfl)) ?_
      have X88 := Ext.refl H63
      have y89 := hb67.lt
      have y90 := hb68.lt
      have o91 := X64.bd
      have o92 := X65.bd
      have o93 := X66.bd
      have o94 := X88.bd
      have a95 := hoG.ltb
      have a96 := hoR.ltb
      refine AL.w rfl (.inl rfl) (WV.bsK (K := kI) (l := ([z82] : List Int)) (css := [[.int .i64 z82]]) sl22 rfl rfl (by first | rfl | (simp [Instr.fill, Value.cells, kI, kB, kU, kU8, kS, Kd.sc]; done) | (simp [Instr.fill, Value.cells, kI, kB, kU, kU8, kS, Kd.sc, rng1, rng2, rng3, rng4, kP])) rfl (segs_cons rfl segs_nil)) ?_
      rintro v97 H98 ⟨hx99, ho100⟩
      have q101 := Nat.le_trans q69 hx99.bd
      have X102 := Ext.trans X64 hx99
      have X103 := Ext.trans X65 hx99
      have X104 := Ext.trans X66 hx99
      have X105 := Ext.trans X88 hx99
      have ho106 := hoG.ext hx99
      have ho107 := hoR.ext hx99
      have hb108 := hb67.ext hx99
      have hb109 := hb68.ext hx99
      have X111 := Ext.refl H98
      refine AL.w rfl (.inl rfl) (WV.apk sl22 rfl rfl ho107 ho100.rd (by simp only [colT, List.length_map, List.length_take, List.length_singleton]; omega) (by simp only [colT, List.length_map, List.length_take, List.length_singleton]; omega) (fun b hb _ e => Nat.lt_irrefl _ (Nat.lt_of_lt_of_le (a96 b e) hb))) ?_
      rintro v112 H113 ⟨hx114, ho115, hb116⟩
      have ho117 := ho115.narrow (ok' := fun b => H37.bd ≤ b) kI_flat (fun b q => (hb116 b q).elim (fun e => (ho107.blk b e).1) (fun e => Nat.le_trans X104.bd e))
      have q118 := Nat.le_trans q101 hx114.bd
      have X119 := Ext.thru X102 hx114 (fun b hb => Nat.le_trans o46 (ho107.blk b hb).1)
      have X120 := Ext.thru X103 hx114 (fun b hb => Nat.le_trans o47 (ho107.blk b hb).1)
      have X121 := Ext.thru X104 hx114 (fun b hb => Nat.le_trans o48 (ho107.blk b hb).1)
      have q123 := Nat.le_trans X105.bd hx114.bd
      have q125 := Nat.le_trans X111.bd hx114.bd
      have ho126 := ho106.but hx114 (fun b hb _ e => by have h1 : H21.bd ≤ b ∧ b < H37.bd := hb; have h2 : H37.bd ≤ b := (ho107.blk b e).1; omega) (fun b hb => (ho107.blk b hb).2.2)
      have hb128 := hb108.but hx114 (fun e => by have q : H37.bd ≤ _ := (ho107.blk _ e).1; omega)
      have hb129 := hb109.but hx114 (fun e => by have q : H37.bd ≤ _ := (ho107.blk _ e).1; omega)
      refine AL.val rfl (.inl rfl) (HV.as rfl) ?_
      refine AL.nil ?_
      refine nrm_blk (nrm_and ?_)
      refine AW.reg ?_
      refine AL.val rfl (.inl rfl) (HV.mv rfl) ?_
      refine AL.val rfl (.inl rfl) (HV.add rfl rfl (by omega)) ?_
      refine AL.val rfl (.inl rfl) (HV.as rfl) ?_
      refine AL.nil ?_
      refine nrm_and ?_
      exact ⟨(j + 1, v112), ⟨X119, X120, X121, hb128, hb129, q118, by omega, ho126, by have q := colT_snoc (z := []) hz74 hz84; rw [List.nil_append, List.nil_append] at q; rw [q]; exact ho117, trivial⟩, by first | omega | (dsimp only; omega), ⟨rfl, rfl, rfl, rfl, rfl, rfl, rfl, rfl, rfl, rfl, rfl, rfl, trivial⟩⟩
    · -- else
      refine AW.exit ?_
      refine ex_and (ex_and (ex_blk ?_))
      refine nrm_and ?_
      refine AW.reg ?_
      refine AL.val rfl (.inl rfl) (HV.fa fl29_2 rfl) ?_
      refine AL.val rfl (.inl rfl) (HV.ld rfl va23 (at_cell_add (j := 2) hb68 rfl)) ?_
      refine AL.val rfl (.inl rfl) (HV.mv rfl) ?_
      have X130 := Ext.refl H63
      have y131 := hb67.lt
      have y132 := hb68.lt
      have o133 := X64.bd
      have o134 := X65.bd
      have o135 := X66.bd
      have o136 := X130.bd
      have a137 := hoG.ltb
      have a138 := hoR.ltb
      have hc143 : vr.cells = #[vr] := by obtain ⟨A, c, e⟩ := hoR.isSl; rw [e]; rfl
      refine AL.w rfl (.inl rfl) (WV.bsO (okx := fun b => H37.bd ≤ b) (K := (kO 2 kI)) (l := ([(colT (l.take j) i)] : List (List Int))) (css := [[vr]]) sl23 rfl rfl (by simp [Instr.fill, hc143, kO, rng1]) rfl (segs_cons ⟨_, rfl, hoR⟩ segs_nil)) ?_
      rintro v139 H140 ⟨hx141, ho142⟩
      have q145 := Nat.le_trans q69 hx141.bd
      have X146 := Ext.trans X64 hx141
      have X147 := Ext.trans X65 hx141
      have X148 := Ext.trans X66 hx141
      have X149 := Ext.trans X130 hx141
      have ho150 := hoG.ext hx141
      have ho151 := hoR.ext hx141
      have hb152 := hb67.ext hx141
      have hb153 := hb68.ext hx141
      have ho144 := ho142.okk (ok' := fun b => H37.bd ≤ b) (fun b hb _ => hb.elim id (fun e => Nat.le_trans X66.bd e))
      have X155 := Ext.refl H140
      refine AL.w rfl (.inl rfl) (WV.apD (ok := fun b => H21.bd ≤ b) (B := H37.bd) sl23 rfl rfl ho150 ho144.rd X148.bd (by rw [turn_len]; first | omega | (simp; omega)) (by rw [turn_len]; first | omega | (simp; omega))) ?_
      rintro v156 H157 ⟨hx158, ho159, hb160⟩
      have ho161 := ho159.okk (ok' := fun b => H21.bd ≤ b) (fun b hb _ => hb.elim id (fun e => Nat.le_trans q41 e))
      have q162 := Nat.le_trans q145 hx158.bd
      have X163 := Ext.thru X146 hx158 (fun b hb => Nat.le_trans o32 (ho150.blk b hb).1.1)
      have X164 := Ext.thru X147 hx158 (fun b hb => Nat.le_trans o33 (ho150.blk b hb).1.1)
      have q166 := Nat.le_trans X148.bd hx158.bd
      have q168 := Nat.le_trans X149.bd hx158.bd
      have q170 := Nat.le_trans X155.bd hx158.bd
      have hb171 := hb152.but hx158 (fun e => by have q : H21.bd ≤ _ := (ho150.blk _ e).1.1; omega)
      have hb172 := hb153.but hx158 (fun e => by have q : H21.bd ≤ _ := (ho150.blk _ e).1.1; omega)
      refine AL.val rfl (.inl rfl) (HV.fa fl29_2 rfl) ?_
      refine AL.w0 (.inl rfl) (WV.st rfl rfl va23 (sl_size (rd_ofO ho161.rd).isSl) hb172 (Nat.le_of_ble_eq_true rfl) (sl_one (rd_ofO ho161.rd).isSl)) ?_
      rintro _ H173 ⟨hx174, hb175⟩
      rw [sl_cells (rd_ofO ho161.rd).isSl] at hb175
      have q176 := Nat.le_trans q162 hx174.bd
      have q177 := Nat.le_trans q166 hx174.bd
      have q178 := Nat.le_trans q168 hx174.bd
      have q179 := Nat.le_trans q170 hx174.bd
      have X180 := Ext.thru X163 hx174 (fun z_ hz_ => by rw [hz_]; exact o14)
      have X181 := Ext.thru X164 hx174 (fun z_ hz_ => by rw [hz_]; exact o15)
      have ho182 := ho161.but hx174 (fun b hb _ e => by have hb' : H21.bd ≤ b := hb; have e' : b = b9 := e; omega) (fun z_ hz_ => by rw [hz_]; exact hb172.w)
      have hb183 := hb171.but hx174 ne16
      have hb184 : At W H173 b9 ⟨29, [.int .i64 p, .int .i64 (l.length : Int), v156], 3⟩ := hb175
      refine AL.nil ?_
      refine nrm_blk (nrm_and ?_)
      refine AW.reg ?_
      refine AL.val rfl (.inl rfl) (HV.mv rfl) ?_
      refine AL.val rfl (.inl rfl) (HV.add rfl rfl (by omega)) ?_
      refine AL.val rfl (.inl rfl) (HV.as rfl) ?_
      refine AL.nil ?_
      refine nrm_and ?_
      exact ⟨(i + 1, v156), ⟨X180, X181, hb183, q176, by omega, hb184, by have hj2 : j = l.length := (by omega); rw [turn_succ, show colT l i = colT (l.take j) i by rw [hj2, List.take_length]]; exact ho182, trivial⟩, by first | omega | (dsimp only; omega), ⟨rfl, rfl, rfl, rfl, trivial⟩⟩
  · -- else
    refine AW.exit ?_
    refine ex_and (ex_and (ex_blk ?_))
    refine nrm_and ?_
    refine AW.rs ?_
    refine AL.val rfl (.inl rfl) (HV.lda (cs := [.int .i64 p, .int .i64 (l.length : Int), vv]) rfl va29 (at_cells hbB rfl)) ?_
    refine AL.w0 (.inl rfl) (WV.st rfl rfl va29 rfl hb40 (Nat.le_of_ble_eq_true rfl) (one_cons rfl (one_cons rfl (one_cons (sl_one1 (rd_ofO hoL.rd).isSl) one_nil)))) ?_
    rintro _ H185 ⟨hx186, hb187⟩
    have q188 := Nat.le_trans q41 hx186.bd
    have X189 := Ext.thru X38 hx186 (fun z_ hz_ => by rw [hz_]; exact o6)
    have q191 := Nat.le_trans X39.bd hx186.bd
    have ho192 := hoL.but hx186 (fun b hb _ e => by have hb' : H21.bd ≤ b := hb; have e' : b = b1 := e; omega) (fun z_ hz_ => by rw [hz_]; exact hb40.w)
    have hb193 := hbB.but hx186 (fun e => ne16 e.symm)
    have hb194 : At W H185 b1 ⟨29, [.int .i64 p, .int .i64 (l.length : Int), vv], 3⟩ := hb187
    refine AL.nx ?_
    refine AW.ret ?_
    refine post_cell rfl rfl va29 hb194 ?_ (.inr rfl)
    exact ⟨⟨_, rfl, by rw [show K = i by omega]; exact ho192.okk (fun b hb _ => Nat.le_trans o32 hb)⟩, X189⟩

set_option maxRecDepth 100000 in
theorem unit_ok (k : Int) (hk : 1 ≤ k ∧ k ≤ 40) : ACalls Try.prog W 83 #[.int .i64 k] H (fun r H' => Ext H H' ∧ OwnK kI 2 W H' (fun b => H.bd ≤ b) r (unitL k.toNat 0)) := by
  refine ACalls.of (args := [.int .i64 k]) Try.func83 rfl rfl ?_
  have X0 := Ext.refl H
  refine AW.rs ?_
  refine AL.val rfl (.inl rfl) (HV.as rfl) ?_
  refine AL.nx ?_
  refine AW.rs ?_
  refine AL.val rfl (.inl rfl) (HV.mv rfl) ?_
  have o1 := X0.bd
  refine AL.w rfl (.inl rfl) (WV.mkK (K := kI) (0 : Int) (fun _ _ _ => rfl) sl22 rfl rfl rfl (by omega) (by omega) (by omega)) ?_
  rintro v2 H3 ⟨hx4, ho5⟩
  have X6 := Ext.trans X0 hx4
  refine AL.val rfl (.inl rfl) (HV.as rfl) ?_
  refine AL.nx ?_
  refine AW.rs ?_
  refine AL.val rfl (.inl rfl) (HV.mv rfl) ?_
  obtain ⟨g8, z9, cs10, hz11, hK12, hC13, hg14, hP15⟩ := OwnK.ix (q := 0) ho5 sl22 (by decide) (by simp; omega)
  have X16 := Ext.refl H3
  obtain rfl : cs10 = [.int .i64 z9] := hK12
  refine AL.val rfl (.inl rfl) (hP15 rfl rfl) ?_
  refine AL.w0 (.inl rfl) (WV.stK (okx := fun _ => False) (x' := 1) ho5 hg14 rfl rfl va2 (by simp; omega) rfl (fun _ h => h.elim)) ?_
  rintro _ H17 ⟨hx18, ho19⟩
  have X20 := Ext.thru X6 hx18 (fun b hb => Nat.le_trans o1 (ho5.blk b hb).1)
  have ho22 := ho19.okk (ok' := fun b => H.bd ≤ b) (fun b hb _ => hb.elim id False.elim)
  refine AL.nx ?_
  refine AW.rs ?_
  refine AL.val rfl (.inl rfl) (HV.mv rfl) ?_
  refine AL.val rfl (.inl rfl) (HV.as rfl) ?_
  refine AL.nx ?_
  refine AW.ret ?_
  refine post_one rfl rfl ?_ (.inr rfl)
  exact ⟨X20, ho22.okk (fun b hb _ => Nat.le_trans o1 hb)⟩

set_option maxRecDepth 100000 in
theorem l04First_ok (k : Int) (hk : 1 ≤ k ∧ k ≤ 40) : ACalls Try.prog W 81 #[.int .i64 k] H (fun r H' => Ext H H' ∧ OwnK kI 2 W H' (fun b => H.bd ≤ b) r (unitL k.toNat 0)) := by
  refine ACalls.of (args := [.int .i64 k]) Try.func81 rfl rfl ?_
  have X0 := Ext.refl H
  refine AW.rs ?_
  refine AL.val rfl (.inl rfl) (HV.as rfl) ?_
  refine AL.nx ?_
  refine AW.rs ?_
  refine AL.val rfl (.inl rfl) (HV.mv rfl) ?_
  have o1 := X0.bd
  refine AL.w rfl (.inl rfl) (WV.mkK (K := kI) (0 : Int) (fun _ _ _ => rfl) sl22 rfl rfl rfl (by omega) (by omega) (by omega)) ?_
  rintro v2 H3 ⟨hx4, ho5⟩
  have X6 := Ext.trans X0 hx4
  refine AL.val rfl (.inl rfl) (HV.as rfl) ?_
  refine AL.nx ?_
  refine AW.rs ?_
  refine AL.val rfl (.inl rfl) (HV.mv rfl) ?_
  obtain ⟨g8, z9, cs10, hz11, hK12, hC13, hg14, hP15⟩ := OwnK.ix (q := 0) ho5 sl22 (by decide) (by simp; omega)
  have X16 := Ext.refl H3
  obtain rfl : cs10 = [.int .i64 z9] := hK12
  refine AL.val rfl (.inl rfl) (hP15 rfl rfl) ?_
  refine AL.w0 (.inl rfl) (WV.stK (okx := fun _ => False) (x' := 1) ho5 hg14 rfl rfl va2 (by simp; omega) rfl (fun _ h => h.elim)) ?_
  rintro _ H17 ⟨hx18, ho19⟩
  have X20 := Ext.thru X6 hx18 (fun b hb => Nat.le_trans o1 (ho5.blk b hb).1)
  have ho22 := ho19.okk (ok' := fun b => H.bd ≤ b) (fun b hb _ => hb.elim id False.elim)
  refine AL.nx ?_
  refine AW.rs ?_
  refine AL.val rfl (.inl rfl) (HV.mv rfl) ?_
  refine AL.val rfl (.inl rfl) (HV.as rfl) ?_
  refine AL.nx ?_
  refine AW.ret ?_
  refine post_one rfl rfl ?_ (.inr rfl)
  exact ⟨X20, ho22.okk (fun b hb _ => Nat.le_trans o1 hb)⟩

set_option maxRecDepth 100000 in
theorem specComb_ok {ad : Addr} {v : Value} {l : List (List Int)} {ok : Nat → Prop} (p k : Int) (hr : RdK (kR kI) W H ok v l) (hc : Cells W H ad [.int .i64 p, .int .i64 k, v]) {vt : Value} {tg : List Int} {okt : Nat → Prop} (hrt : RdK kI W H okt vt tg) {K : Nat} (hq : isPr p = true) (hkK : k = (K : Int)) (hrc : rect p K l) (hK : 0 < K ∧ K ≤ 30) (hR : l.length ≤ 30) (htg : elems p tg) (htl : tg.length = K) : ACalls Try.prog W 80 #[.pointer (some ad), vt] H (fun r H' => (∃ u, r = .tuple #[u, .bool (combI p l tg).2] ∧ OwnK kI 2 W H' (fun b => H.bd ≤ b) u (combI p l tg).1) ∧ Ext H H') := by
  refine ACalls.of (args := [.pointer (some ad), vt]) Try.func80 rfl rfl ?_
  have X0 := Ext.refl H
  have hm1 := hrt.max
  have hp := isPr_bd hq
  have hmx := hr.max
  have hcs := comb_sol hq hK.1 hrc htg htl
  refine AW.rs ?_
  refine AL.val rfl (.inl rfl) (HV.as rfl) ?_
  refine AL.val rfl (.inl rfl) (HV.as rfl) ?_
  refine AL.nx ?_
  refine AW.rs ?_
  refine AL.val rfl (.inl rfl) (HV.mv rfl) ?_
  have o2 := X0.bd
  refine AL.w rfl (.inl rfl) (WV.call fn91 rfl (turned_ok p k hr hc (K := K) hkK hrc (by omega) (by omega))) ?_
  rintro _ H4 ⟨⟨u3, rfl, ho6⟩, hx5⟩
  have X7 := Ext.trans X0 hx5
  have X8 := Ext.refl H4
  have hr9 := rd_ofO ho6.rd
  refine AL.w rfl (.inl rfl) (WV.al ze29 rfl) ?_
  rintro _ H11 ⟨b10, rfl, hx12, hn13, hb14⟩
  have o15 := Nat.le_trans X7.bd hn13
  have o16 := Nat.le_trans X8.bd hn13
  have X17 := Ext.trans X7 hx12
  have X18 := Ext.trans X8 hx12
  have X19 := Ext.refl H11
  refine AL.w0 (.inl rfl) (WV.st rfl rfl va29 rfl hb14 (Nat.le_of_ble_eq_true rfl) (one_cons rfl (one_cons rfl (one_cons (sl_one1 (hr9.ext X18).isSl) one_nil)))) ?_
  rintro _ H20 ⟨hx21, hb22⟩
  have X23 := Ext.thru X17 hx21 (fun z_ hz_ => by rw [hz_]; exact o15)
  have X24 := Ext.thru X18 hx21 (fun z_ hz_ => by rw [hz_]; exact o16)
  have hb26 : At W H20 b10 ⟨29, [.int .i64 p, .int .i64 (l.length : Int), u3], 3⟩ := hb22
  refine AL.nx ?_
  refine AW.rs ?_
  refine AL.val rfl (.inl rfl) (HV.mv rfl) ?_
  have X27 := Ext.refl H20
  have y28 := hb26.lt
  have o29 := X23.bd
  have o30 := X24.bd
  have o31 := X27.bd
  refine AL.w rfl (.inl rfl) (WV.call fn71 rfl (specSol_ok p (l.length : Int) (hr9.ext X24) (at_cells hb26 rfl) (hrt.ext X23) hq rfl (turn_rect (by omega) hrc) (by omega) (by rw [turn_len]; omega) htg (by rw [turn_len]; exact htl))) ?_
  rintro _ H33 ⟨⟨v32, rfl, hv35⟩, hx34⟩
  have X36 := Ext.trans X23 hx34
  have X37 := Ext.trans X24 hx34
  have X38 := Ext.trans X27 hx34
  have hb39 := hb26.ext hx34
  have X40 := Ext.refl H33
  refine AL.val rfl (.inl rfl) (HV.ex rfl rfl) ?_
  refine AL.val rfl (.inl rfl) (HV.ex rfl rfl) ?_
  refine AL.val rfl (.inl rfl) (HV.as rfl) ?_
  refine AL.val rfl (.inl rfl) (HV.as rfl) ?_
  refine AL.nx ?_
  refine AW.ret ?_
  refine post_two rfl rfl rfl ?_ (.inr rfl)
  rw [hcs] at *; exact ⟨⟨_, rfl, hv35.okk (fun b hb _ => Nat.le_trans o29 hb)⟩, X36⟩

set_option maxRecDepth 100000 in
theorem l04Open_ok {ad : Addr} {vo v : Value} {o : List Int} {l : List (List Int)} {oko ok : Nat → Prop} (n p k : Int) (ho : RdK kI W H oko vo o) (hr : RdK (kR kI) W H ok v l) (hc : Cells W H ad [.int .i64 n, vo, .int .i64 p, .int .i64 k, v]) {vg : Value} {g : List Int} {okg : Nat → Prop} (hrg : RdK kI W H okg vg g) (hok : okSc n o p k l) : ACalls Try.prog W 77 #[.pointer (some ad), vg] H (fun r H' => r = .bool (openX p k o l g).2 ∧ Ext H H') := by
  refine ACalls.of (args := [.pointer (some ad), vg]) Try.func77 rfl rfl ?_
  have X0 := Ext.refl H
  have hm1 := hrg.max
  have hF := okSc_f hok
  have hp := hF.pb
  have hk1 := hF.k1
  have hk0 := hF.k0
  have hF1 := hF.R
  have hF2 := hF.ol
  obtain ⟨hP1, hP2, hP3⟩ := hF.part g
  refine AW.rs ?_
  refine AL.val rfl (.inl rfl) (HV.as rfl) ?_
  refine AL.nx ?_
  refine AW.rs ?_
  refine AL.val rfl (.inl rfl) (HV.mv rfl) ?_
  refine AL.val rfl (.inl rfl) (HV.mv rfl) ?_
  have o2 := X0.bd
  refine AL.w rfl (.inl rfl) (WV.call fn70 rfl (l04Part_ok n p k ho hr hc hrg hok)) ?_
  rintro _ H4 ⟨⟨u3, rfl, ho6⟩, hx5⟩
  have X7 := Ext.trans X0 hx5
  have X8 := Ext.refl H4
  have hr9 := rd_ofO ho6.rd
  refine AL.w rfl (.inl rfl) (WV.al ze29 rfl) ?_
  rintro _ H11 ⟨b10, rfl, hx12, hn13, hb14⟩
  have o15 := Nat.le_trans X7.bd hn13
  have o16 := Nat.le_trans X8.bd hn13
  have X17 := Ext.trans X7 hx12
  have X18 := Ext.trans X8 hx12
  have X19 := Ext.refl H11
  refine AL.w0 (.inl rfl) (WV.st rfl rfl va29 rfl hb14 (Nat.le_of_ble_eq_true rfl) (one_cons rfl (one_cons rfl (one_cons (sl_one1 (hr9.ext X18).isSl) one_nil)))) ?_
  rintro _ H20 ⟨hx21, hb22⟩
  have X23 := Ext.thru X17 hx21 (fun z_ hz_ => by rw [hz_]; exact o15)
  have X24 := Ext.thru X18 hx21 (fun z_ hz_ => by rw [hz_]; exact o16)
  have hb26 : At W H20 b10 ⟨29, [.int .i64 p, .int .i64 k, u3], 3⟩ := hb22
  refine AL.nx ?_
  refine AW.rs ?_
  refine AL.val rfl (.inl rfl) (HV.mv rfl) ?_
  refine AL.val rfl (.inl rfl) (HV.nc rfl) ?_
  refine AL.val rfl (.inl rfl) (HV.fa fl31_2 rfl) ?_
  refine AL.val rfl (.inl rfl) (HV.fa fl29_1 rfl) ?_
  refine AL.val rfl (.inl rfl) (HV.ld rfl va2 (cells_at ((Cells.part (i := 2) (vs := [.int .i64 p, .int .i64 k, v]) hc rfl).ext X23) rfl)) ?_
  refine AL.w rfl (.inl rfl) (WV.call fn81 rfl (l04First_ok (W := W) k (by omega))) ?_
  rintro v27 H28 ⟨hx29, ho30⟩
  have X32 := Ext.trans X23 hx29
  have X33 := Ext.trans X24 hx29
  have hb34 := hb26.ext hx29
  have X35 := Ext.refl H28
  have hr31 : RdK kI W H28 _ v27 (unitL (k : Int).toNat 0) := ho30.rd
  have y36 := hb34.lt
  have o37 := X32.bd
  have o38 := X33.bd
  have o39 := X35.bd
  refine AL.w rfl (.inl rfl) (WV.call fn80 rfl (specComb_ok p k (hr9.ext X33) (at_cells hb34 rfl) hr31 (K := k.toNat) hF.q hk0 hP1 (by omega) (by rw [partL_len]; omega) (unitL_in (by omega) _ _) (unitL_len _ _))) ?_
  rintro _ H41 ⟨⟨u40, rfl, hv43⟩, hx42⟩
  have X44 := Ext.trans X32 hx42
  have X45 := Ext.trans X33 hx42
  have X46 := Ext.trans X35 hx42
  have hb47 := hb34.ext hx42
  have X48 := Ext.refl H41
  have hr49 := hv43.rd
  refine AL.val rfl (.inl rfl) (HV.mv rfl) ?_
  refine AL.val rfl (.inl rfl) (HV.ex rfl rfl) ?_
  refine AL.val rfl (.inl rfl) (HV.ex rfl rfl) ?_
  refine AL.val rfl (.inl rfl) (HV.as rfl) ?_
  refine AL.val rfl (.inl rfl) (HV.as rfl) ?_
  refine AL.nx ?_
  refine AW.rs ?_
  refine AL.val rfl (.inl rfl) (HV.mv rfl) ?_
  refine AL.val rfl (.inl rfl) (HV.as rfl) ?_
  refine AL.nx ?_
  refine AW.ret ?_
  refine post_one rfl rfl ?_ (.inr rfl)
  exact ⟨rfl, X44⟩

set_option maxRecDepth 100000 in
theorem opens_ok {vo v : Value} {o : List Int} {l : List (List Int)} {oko ok : Nat → Prop} (n p k : Int) (ho : RdK kI W H oko vo o) (hr : RdK (kR kI) W H ok v l) {g : List Int} (hok : okSc n o p k l) (hg : Ris 0 (n - 1) g) : ACalls Try.prog W 79 #[.agg #[.int .i64 n, vo, .int .i64 p, .int .i64 k, v], .int .u64 (crowd g)] H (fun r H' => r = .bool (openX p k o l g).2 ∧ Ext H H') := by
  refine ACalls.of (args := [.agg #[.int .i64 n, vo, .int .i64 p, .int .i64 k, v], .int .u64 (crowd g)]) Try.func79 rfl rfl ?_
  have X0 := Ext.refl H
  have hm1 := ho.max
  have hm2 := hr.max
  have hF := okSc_f hok
  have hp := hF.pb
  have hk1 := hF.k1
  have hk0 := hF.k0
  have hF1 := hF.R
  have hF2 := hF.ol
  obtain ⟨hP1, hP2, hP3⟩ := hF.part g
  refine AW.rs ?_
  refine AL.w rfl (.inl rfl) (WV.bx rfl rfl) ?_
  rintro _ H4 ⟨b3, rfl, hx5, hn6, hb7⟩
  have o8 := Nat.le_trans X0.bd hn6
  have X9 := Ext.trans X0 hx5
  have X10 := Ext.refl H4
  refine AL.val rfl (.inl rfl) (HV.as rfl) ?_
  refine AL.nx ?_
  refine AW.seq ?_
  refine AW.draw' [0, 0, 3, 0, 8, 24, 63, 127, 255, 511, 511, 1023, 4095] mixed (by rfl) ?_
  refine Dr.read 0 _ 8 _ rfl rfl rfl rfl rfl (RV.of (by intro _ _ h; cases h) (.inl rfl) (fun _ xd => HV.lda (cs := [.int .i64 n, vo, .int .i64 p, .int .i64 k, v]) rfl va31 (fun j u hu => rdc_ext xd ((at_cells hb7 rfl) j u hu)))) ?_
  refine Dr.read 1 _ 9 _ rfl rfl rfl rfl rfl (RV.of (by intro _ _ h; cases h) (.inl rfl) (fun _ xd => HV.mv rfl)) ?_
  refine Dr.read 3 _ 11 _ rfl rfl rfl rfl rfl (RV.of (by intro _ _ h; cases h) (.inl rfl) (fun _ xd => HV.fa fl31_2 rfl)) ?_
  refine Dr.read 4 _ 12 _ rfl rfl rfl rfl rfl (RV.of (by intro _ _ h; cases h) (.inl rfl) (fun _ xd => HV.fa fl29_1 rfl)) ?_
  refine Dr.read 5 _ 13 _ rfl rfl rfl rfl rfl (RV.of (by intro _ _ h; cases h) (.inl rfl) (fun _ xd => HV.ld rfl va2 (rdc_ext xd (at_cell_add (j := 3) hb7 rfl)))) ?_
  have y11 := hb7.lt
  have o12 := X9.bd
  have o13 := X10.bd
  refine Dr.eff 2 _ _ rfl (by intro d h; cases h; exact ⟨rfl, rfl⟩) rfl rfl rfl (EC.of (by intro _ _ h; cases h) (.inl rfl) (WV.call fn73 rfl (held_ok n p k (ho.ext X9) (hr.ext X9) hok hg))) (fun v H' h => .inl (h.2)) ?_
  rintro _ H15 ⟨⟨u14, rfl, ho17⟩, hx16⟩
  have X18 := Ext.trans X9 hx16
  have X19 := Ext.trans X10 hx16
  have hb20 := hb7.ext hx16
  have X21 := Ext.refl H15
  have hr22 := rd_ofO ho17.rd
  refine Dr.eff 6 _ _ rfl (by intro d h; cases h; exact ⟨rfl, rfl⟩) rfl rfl rfl (EC.of (by intro _ _ h; cases h) (.inl rfl) (WV.call fn83 rfl (unit_ok (W := W) k (by omega)))) (fun v H' h => .inl (h.1)) ?_
  rintro v23 H24 ⟨hx25, ho26⟩
  have X28 := Ext.trans X18 hx25
  have X29 := Ext.trans X19 hx25
  have X30 := Ext.trans X21 hx25
  have hb31 := hb20.ext hx25
  have X32 := Ext.refl H24
  have hr27 : RdK kI W H24 _ v23 (unitL (k : Int).toNat 0) := ho26.rd
  have y33 := hb31.lt
  have o34 := X28.bd
  have o35 := X29.bd
  have o36 := X30.bd
  have o37 := X32.bd
  refine Dr.eff 7 _ _ rfl (by intro d h; cases h; exact ⟨rfl, rfl⟩) rfl rfl rfl (EC.of (by intro _ _ h; cases h) (.inl rfl) (WV.call fn82 rfl (comb_ok p k (hr22.ext X30) hr27 (K := k.toNat) hF.q hk0 hP1 (by omega) (by rw [partL_len]; omega) (unitL_in (by omega) _ _) (unitL_len _ _)))) (fun v H' h => .inl (h.2)) ?_
  rintro _ H39 ⟨⟨u38, rfl, hv41⟩, hx40⟩
  have X42 := Ext.trans X28 hx40
  have X43 := Ext.trans X29 hx40
  have X44 := Ext.trans X30 hx40
  have X45 := Ext.trans X32 hx40
  have hb46 := hb31.ext hx40
  have X47 := Ext.refl H39
  have hr48 := hv41.rd
  refine Dr.read 8 _ 7 _ rfl rfl rfl rfl rfl (RV.of (by intro _ _ h; cases h) (.inl rfl) (fun _ xd => HV.mv rfl)) ?_
  refine Dr.read 9 _ 16 _ rfl rfl rfl rfl rfl (RV.of (by intro _ _ h; cases h) (.inl rfl) (fun _ xd => HV.ex rfl rfl)) ?_
  refine Dr.read 10 _ 17 _ rfl rfl rfl rfl rfl (RV.of (by intro _ _ h; cases h) (.inl rfl) (fun _ xd => HV.ex rfl rfl)) ?_
  refine Dr.read 11 _ 5 _ rfl rfl rfl rfl rfl (RV.of (by intro _ _ h; cases h) (.inl rfl) (fun _ xd => HV.as rfl)) ?_
  refine Dr.read 12 _ 6 _ rfl rfl rfl rfl rfl (RV.of (by intro _ _ h; cases h) (.inl rfl) (fun _ xd => HV.as rfl)) ?_
  refine Dr.fin rfl ?_
  refine nrm_and ?_
  refine AW.rs ?_
  refine AL.val rfl (.inl rfl) (HV.mv rfl) ?_
  refine AL.val rfl (.inl rfl) (HV.as rfl) ?_
  refine AL.nx ?_
  refine AW.ret ?_
  refine post_one rfl rfl ?_ (.inr rfl)
  exact ⟨rfl, X42⟩

set_option maxRecDepth 100000 in
theorem specSO_ok {vo v : Value} {o : List Int} {l : List (List Int)} {oko ok : Nat → Prop} (n p k : Int) (ho : RdK kI W H oko vo o) (hr : RdK (kR kI) W H ok v l) {vg : Value} {g : List Int} {okg : Nat → Prop} (hrg : RdK kI W H okg vg g) : ACalls Try.prog W 24 #[.agg #[.int .i64 n, vo, .int .i64 p, .int .i64 k, v], vg] H (fun r H' => r = .tuple #[.bool (soB n o p k l g), .int .i64 (askC n o p k l g)] ∧ Ext H H') := by
  refine ACalls.of (args := [.agg #[.int .i64 n, vo, .int .i64 p, .int .i64 k, v], vg]) Try.func24 rfl rfl ?_
  have X0 := Ext.refl H
  have hm1 := ho.max
  have hm2 := hr.max
  have hm3 := hrg.max
  refine AW.rs ?_
  refine AL.w rfl (.inl rfl) (WV.bx rfl rfl) ?_
  rintro _ H5 ⟨b4, rfl, hx6, hn7, hb8⟩
  have o9 := Nat.le_trans X0.bd hn7
  have X10 := Ext.trans X0 hx6
  have X11 := Ext.refl H5
  refine AL.val rfl (.inl rfl) (HV.as rfl) ?_
  refine AL.val rfl (.inl rfl) (HV.as rfl) ?_
  refine AL.nx ?_
  refine AW.seq ?_
  refine AW.rs ?_
  refine AL.val rfl (.inl rfl) (HV.mv rfl) ?_
  refine AL.w rfl (.inl rfl) (WV.call fn76 rfl (l04Asked_ok n p k (ho.ext X10) (hr.ext X10) (at_cells hb8 rfl) (hrg.ext X10))) ?_
  rintro _ H12 ⟨rfl, hx13⟩
  have X14 := Ext.trans X10 hx13
  have X15 := Ext.trans X11 hx13
  have hb16 := hb8.ext hx13
  refine AL.val rfl (.inl rfl) (HV.as rfl) ?_
  refine AL.nx ?_
  refine AW.rs ?_
  refine AL.val rfl (.inl rfl) (HV.mv rfl) ?_
  refine AL.val rfl (.inl rfl) (HV.nei rfl rfl) ?_
  refine AL.nx ?_
  refine AW.ifd rfl (fun c17 => ?_) (fun c17 => ?_)
  · -- then
    refine AW.rs ?_
    refine AL.val rfl (.inl rfl) (HV.mv rfl) ?_
    refine AL.val rfl (.inl rfl) (HV.as rfl) ?_
    refine AL.val rfl (.inl rfl) (HV.as rfl) ?_
    refine AL.nx ?_
    refine AW.ret ?_
    refine ret_and ?_
    refine post_two rfl rfl rfl ?_ (.inr rfl)
    exact ⟨by unfold soB; rw [if_neg (by assumption)], X14⟩
  · -- else
    refine AW.skip ?_
    refine nrm_and ?_
    refine AW.rs ?_
    obtain ⟨hok, hg⟩ := askC_z (show askC n o p k l g = 0 by omega)
    have hF := okSc_f hok
    have hp := hF.pb
    have hk1 := hF.k1
    have hk0 := hF.k0
    have hF1 := hF.R
    have hF2 := hF.ol
    obtain ⟨hP1, hP2, hP3⟩ := hF.part g
    refine AL.val rfl (.inl rfl) (HV.mv rfl) ?_
    refine AL.w rfl (.inl rfl) (WV.call fn77 rfl (l04Open_ok n p k (ho.ext X14) (hr.ext X14) (at_cells hb16 rfl) (hrg.ext X14) hok)) ?_
    rintro _ H18 ⟨rfl, hx19⟩
    have X20 := Ext.trans X14 hx19
    have X21 := Ext.trans X15 hx19
    have hb22 := hb16.ext hx19
    refine AL.val rfl (.inl rfl) (HV.as rfl) ?_
    refine AL.val rfl (.inl rfl) (HV.as rfl) ?_
    refine AL.nx ?_
    refine AW.ret ?_
    refine post_two rfl rfl rfl ?_ (.inr rfl)
    exact ⟨by unfold soB; rw [if_pos (show askC n o p k l g = 0 by omega), (show askC n o p k l g = 0 by omega)]; (try rfl), X20⟩

set_option maxRecDepth 100000 in
theorem implSO_ok {vo v : Value} {o : List Int} {l : List (List Int)} {oko ok : Nat → Prop} (n p k : Int) (ho : RdK kI W H oko vo o) (hr : RdK (kR kI) W H ok v l) {vg : Value} {g : List Int} {okg : Nat → Prop} (hrg : RdK kI W H okg vg g) : ACalls Try.prog W 25 #[.agg #[.int .i64 n, vo, .int .i64 p, .int .i64 k, v], vg] H (fun r H' => r = .tuple #[.bool (soB n o p k l g), .int .i64 (askC n o p k l g)] ∧ Ext H H') := by
  refine ACalls.of (args := [.agg #[.int .i64 n, vo, .int .i64 p, .int .i64 k, v], vg]) Try.func25 rfl rfl ?_
  have X0 := Ext.refl H
  have hm1 := ho.max
  have hm2 := hr.max
  have hm3 := hrg.max
  refine AW.rs ?_
  refine AL.w rfl (.inl rfl) (WV.bx rfl rfl) ?_
  rintro _ H5 ⟨b4, rfl, hx6, hn7, hb8⟩
  have o9 := Nat.le_trans X0.bd hn7
  have X10 := Ext.trans X0 hx6
  have X11 := Ext.refl H5
  refine AL.val rfl (.inl rfl) (HV.as rfl) ?_
  refine AL.val rfl (.inl rfl) (HV.as rfl) ?_
  refine AL.nx ?_
  refine AW.seq ?_
  refine AW.rs ?_
  refine AL.val rfl (.inl rfl) (HV.lda (cs := [.int .i64 n, vo, .int .i64 p, .int .i64 k, v]) rfl va31 (at_cells hb8 rfl)) ?_
  refine AL.val rfl (.inl rfl) (HV.mv rfl) ?_
  refine AL.w rfl (.inl rfl) (WV.call fn78 rfl (schemeCode_ok n p k (ho.ext X10) (hr.ext X10) (hrg.ext X10))) ?_
  rintro _ H12 ⟨rfl, hx13⟩
  have X14 := Ext.trans X10 hx13
  have X15 := Ext.trans X11 hx13
  have hb16 := hb8.ext hx13
  refine AL.val rfl (.inl rfl) (HV.as rfl) ?_
  refine AL.nx ?_
  refine AW.rs ?_
  refine AL.val rfl (.inl rfl) (HV.mv rfl) ?_
  refine AL.val rfl (.inl rfl) (HV.nei rfl rfl) ?_
  refine AL.nx ?_
  refine AW.ifd rfl (fun c17 => ?_) (fun c17 => ?_)
  · -- then
    refine AW.rs ?_
    refine AL.val rfl (.inl rfl) (HV.mv rfl) ?_
    refine AL.val rfl (.inl rfl) (HV.as rfl) ?_
    refine AL.val rfl (.inl rfl) (HV.as rfl) ?_
    refine AL.nx ?_
    refine AW.ret ?_
    refine ret_and ?_
    refine post_two rfl rfl rfl ?_ (.inr rfl)
    exact ⟨by unfold soB; rw [if_neg (by assumption)], X14⟩
  · -- else
    refine AW.skip ?_
    refine nrm_and ?_
    refine AW.seq ?_
    refine AW.draw' [0, 0, 2, 7, 15, 31] mixed (by rfl) ?_
    obtain ⟨hok, hg⟩ := askC_z (show askC n o p k l g = 0 by omega)
    have hF := okSc_f hok
    have hp := hF.pb
    have hk1 := hF.k1
    have hk0 := hF.k0
    have hF1 := hF.R
    have hF2 := hF.ol
    obtain ⟨hP1, hP2, hP3⟩ := hF.part g
    refine Dr.read 0 _ 13 _ rfl rfl rfl rfl rfl (RV.of (by intro _ _ h; cases h) (.inl rfl) (fun _ xd => HV.lda (cs := [.int .i64 n, vo, .int .i64 p, .int .i64 k, v]) rfl va31 (fun j u hu => rdc_ext xd ((at_cells hb16 rfl) j u hu)))) ?_
    refine Dr.read 1 _ 14 _ rfl rfl rfl rfl rfl (RV.of (by intro _ _ h; cases h) (.inl rfl) (fun _ xd => HV.mv rfl)) ?_
    refine Dr.eff 2 _ _ rfl (by intro d h; cases h; exact ⟨rfl, rfl⟩) rfl rfl rfl (EC.of (by intro _ _ h; cases h) (.inl rfl) (WV.call fn74 rfl (crowdOf_ok (hrg.ext X14) (by skip; exact ris_low hF.hn hg)))) (fun v H' h => .inl (h.2)) ?_
    rintro _ H18 ⟨rfl, hx19⟩
    have X20 := Ext.trans X14 hx19
    have X21 := Ext.trans X15 hx19
    have hb22 := hb16.ext hx19
    refine Dr.eff 3 _ _ rfl (by intro d h; cases h; exact ⟨rfl, rfl⟩) rfl rfl rfl (EC.of (by intro _ _ h; cases h) (.inl rfl) (WV.call fn79 rfl (opens_ok n p k (ho.ext X20) (hr.ext X20) hok hg))) (fun v H' h => .inl (h.2)) ?_
    rintro _ H23 ⟨rfl, hx24⟩
    have X25 := Ext.trans X20 hx24
    have X26 := Ext.trans X21 hx24
    have hb27 := hb22.ext hx24
    refine Dr.read 4 _ 4 _ rfl rfl rfl rfl rfl (RV.of (by intro _ _ h; cases h) (.inl rfl) (fun _ xd => HV.as rfl)) ?_
    refine Dr.read 5 _ 5 _ rfl rfl rfl rfl rfl (RV.of (by intro _ _ h; cases h) (.inl rfl) (fun _ xd => HV.as rfl)) ?_
    refine Dr.fin rfl ?_
    refine nrm_and ?_
    refine AW.ret ?_
    refine post_two rfl rfl rfl ?_ (.inr rfl)
    exact ⟨by unfold soB; rw [if_pos (show askC n o p k l g = 0 by omega), (show askC n o p k l g = 0 by omega)]; (try rfl), X25⟩

set_option maxRecDepth 100000 in
theorem law_SchemeOpens {vo v : Value} {o : List Int} {l : List (List Int)} {oko ok : Nat → Prop} (n p k : Int) (ho : RdK kI W H oko vo o) (hr : RdK (kR kI) W H ok v l) {vg : Value} {g : List Int} {okg : Nat → Prop} (hrg : RdK kI W H okg vg g) : ACalls Try.prog W 5 #[.agg #[.int .i64 n, vo, .int .i64 p, .int .i64 k, v], vg] H (fun r H' => r = .bool true ∧ Ext H H') := by
  refine ACalls.of (args := [.agg #[.int .i64 n, vo, .int .i64 p, .int .i64 k, v], vg]) Try.func5 rfl rfl ?_
  have X0 := Ext.refl H
  have hm1 := ho.max
  have hm2 := hr.max
  have hm3 := hrg.max
  refine AW.rs ?_
  refine AL.w rfl (.inl rfl) (WV.bx rfl rfl) ?_
  rintro _ H5 ⟨b4, rfl, hx6, hn7, hb8⟩
  have o9 := Nat.le_trans X0.bd hn7
  have X10 := Ext.trans X0 hx6
  have X11 := Ext.refl H5
  refine AL.val rfl (.inl rfl) (HV.as rfl) ?_
  refine AL.nx ?_
  refine AW.seq ?_
  refine AW.rs ?_
  refine AL.val rfl (.inl rfl) (HV.mv rfl) ?_
  refine AL.val rfl (.inl rfl) (HV.len Try.underlying22 rfl hrg.isSl) ?_
  refine AL.val rfl (.inl rfl) (HV.gti rfl rfl) ?_
  refine AL.nx ?_
  refine AW.ifd rfl (fun c12 => ?_) (fun c12 => ?_)
  · -- then
    refine AW.rs ?_
    refine AL.val rfl (.inl rfl) (HV.as rfl) ?_
    refine AL.nx ?_
    refine AW.ret ?_
    refine ret_and ?_
    refine post_one rfl rfl ?_ (.inr rfl)
    exact ⟨rfl, X10⟩
  · -- else
    refine AW.skip ?_
    refine nrm_and ?_
    refine AW.rs ?_
    refine AL.val rfl (.inl rfl) (HV.as rfl) ?_
    refine AL.nx ?_
    refine AW.rs ?_
    refine AL.val rfl (.inl rfl) (HV.lda (cs := [.int .i64 n, vo, .int .i64 p, .int .i64 k, v]) rfl va27 (at_cells hb8 rfl)) ?_
    refine AL.val rfl (.inl rfl) (HV.mv rfl) ?_
    refine AL.w rfl (.inl rfl) (WV.call fn13 rfl (szSc_ok n p k (ho.ext X10) (hr.ext X10) 1048576 (by omega))) ?_
    rintro _ H13 ⟨⟨q15, rfl, ha16, hb17, he18⟩, hx14⟩
    have X19 := Ext.trans X10 hx14
    have X20 := Ext.trans X11 hx14
    have hb21 := hb8.ext hx14
    refine AL.val rfl (.inl rfl) (HV.as rfl) ?_
    refine AL.nx ?_
    refine AW.seq ?_
    refine AW.rs ?_
    refine AL.val rfl (.inl rfl) (HV.mv rfl) ?_
    refine AL.val rfl (.inl rfl) (HV.lti rfl rfl) ?_
    refine AL.nx ?_
    refine AW.ifd rfl (fun c22 => ?_) (fun c22 => ?_)
    · -- then
      refine AW.rs ?_
      refine AL.val rfl (.inl rfl) (HV.as rfl) ?_
      refine AL.nx ?_
      refine AW.ret ?_
      refine ret_and ?_
      refine post_one rfl rfl ?_ (.inr rfl)
      exact ⟨rfl, X19⟩
    · -- else
      refine AW.skip ?_
      refine nrm_and ?_
      refine AW.rs ?_
      refine AL.val rfl (.inl rfl) (HV.lda (cs := [.int .i64 n, vo, .int .i64 p, .int .i64 k, v]) rfl va27 (at_cells hb21 rfl)) ?_
      refine AL.w rfl (.inl rfl) (WV.call fn15 rfl (toSc_ok n p k (ho.ext X19) (hr.ext X19) (he18 (by omega)).1 (he18 (by omega)).2)) ?_
      rintro _ H26 ⟨⟨u23, v24, B25, rfl, ho28, ho29⟩, hx27⟩
      have X32 := Ext.trans X19 hx27
      have X33 := Ext.trans X20 hx27
      have hb34 := hb21.ext hx27
      have X35 := Ext.refl H26
      have hr30 := ho28.rd
      have hr31 := rd_ofO ho29.rd
      refine AL.val rfl (.inl rfl) (HV.mv rfl) ?_
      refine AL.w rfl (.inl rfl) (WV.call fn21 rfl (toS_ok (hrg.ext X32) (by omega))) ?_
      rintro v36 H37 ⟨hx38, ho39⟩
      have X41 := Ext.trans X32 hx38
      have X42 := Ext.trans X33 hx38
      have X43 := Ext.trans X35 hx38
      have hb44 := hb34.ext hx38
      have X45 := Ext.refl H37
      have hr40 : RdK kI W H37 _ v36 g := ho39.rd
      refine AL.w rfl (.inl rfl) (WV.call fn24 rfl (specSO_ok n p k (hr30.ext X43) (hr31.ext X43) hr40)) ?_
      rintro _ H46 ⟨rfl, hx47⟩
      have X48 := Ext.trans X41 hx47
      have X49 := Ext.trans X42 hx47
      have X50 := Ext.trans X43 hx47
      have X51 := Ext.trans X45 hx47
      have hb52 := hb44.ext hx47
      refine AL.val rfl (.inl rfl) (HV.mv rfl) ?_
      refine AL.val rfl (.inl rfl) (HV.ex rfl rfl) ?_
      refine AL.val rfl (.inl rfl) (HV.ex rfl rfl) ?_
      refine AL.val rfl (.inl rfl) (HV.as rfl) ?_
      refine AL.val rfl (.inl rfl) (HV.as rfl) ?_
      refine AL.nx ?_
      refine AW.rs ?_
      refine AL.val rfl (.inl rfl) (HV.lda (cs := [.int .i64 n, vo, .int .i64 p, .int .i64 k, v]) rfl va27 (at_cells hb52 rfl)) ?_
      refine AL.w rfl (.inl rfl) (WV.call fn15 rfl (toSc_ok n p k (ho.ext X48) (hr.ext X48) (he18 (by omega)).1 (he18 (by omega)).2)) ?_
      rintro _ H56 ⟨⟨u53, v54, B55, rfl, ho58, ho59⟩, hx57⟩
      have X62 := Ext.trans X48 hx57
      have X63 := Ext.trans X49 hx57
      have X64 := Ext.trans X50 hx57
      have X65 := Ext.trans X51 hx57
      have hb66 := hb52.ext hx57
      have X67 := Ext.refl H56
      have hr60 := ho58.rd
      have hr61 := rd_ofO ho59.rd
      refine AL.w rfl (.inl rfl) (WV.al ze31 rfl) ?_
      rintro _ H69 ⟨b68, rfl, hx70, hn71, hb72⟩
      have o73 := Nat.le_trans X62.bd hn71
      have o74 := Nat.le_trans X63.bd hn71
      have o75 := Nat.le_trans X64.bd hn71
      have o76 := Nat.le_trans X65.bd hn71
      have o77 := Nat.le_trans X67.bd hn71
      have ne78 : b4 ≠ b68 := by have := hb66.lt; omega
      have X79 := Ext.trans X62 hx70
      have X80 := Ext.trans X63 hx70
      have X81 := Ext.trans X64 hx70
      have X82 := Ext.trans X65 hx70
      have X83 := Ext.trans X67 hx70
      have hb84 := hb66.ext hx70
      have X85 := Ext.refl H69
      refine AL.w0 (.inl rfl) (WV.st rfl rfl va31 rfl hb72 (Nat.le_of_ble_eq_true rfl) (one_cons rfl (one_cons (sl_one1 (hr60.ext X83).isSl) (one_cons rfl (one_cons rfl (one_cons (sl_one1 (hr61.ext X83).isSl) one_nil)))))) ?_
      rintro _ H86 ⟨hx87, hb88⟩
      have X89 := Ext.thru X79 hx87 (fun z_ hz_ => by rw [hz_]; exact o73)
      have X90 := Ext.thru X80 hx87 (fun z_ hz_ => by rw [hz_]; exact o74)
      have X91 := Ext.thru X81 hx87 (fun z_ hz_ => by rw [hz_]; exact o75)
      have X92 := Ext.thru X82 hx87 (fun z_ hz_ => by rw [hz_]; exact o76)
      have X93 := Ext.thru X83 hx87 (fun z_ hz_ => by rw [hz_]; exact o77)
      have hb95 := hb84.but hx87 ne78
      have hb96 : At W H86 b68 ⟨31, [.int .i64 n, u53, .int .i64 p, .int .i64 k, v54], 5⟩ := hb88
      refine AL.nx ?_
      refine AW.rs ?_
      refine AL.val rfl (.inl rfl) (HV.mv rfl) ?_
      refine AL.w rfl (.inl rfl) (WV.call fn21 rfl (toS_ok (hrg.ext X89) (by omega))) ?_
      rintro v97 H98 ⟨hx99, ho100⟩
      have X102 := Ext.trans X89 hx99
      have X103 := Ext.trans X90 hx99
      have X104 := Ext.trans X91 hx99
      have X105 := Ext.trans X92 hx99
      have X106 := Ext.trans X93 hx99
      have hb107 := hb95.ext hx99
      have hb108 := hb96.ext hx99
      have X109 := Ext.refl H98
      have hr101 : RdK kI W H98 _ v97 g := ho100.rd
      refine AL.val rfl (.inl rfl) (HV.as rfl) ?_
      refine AL.nx ?_
      refine AW.rs ?_
      refine AL.val rfl (.inl rfl) (HV.lda (cs := [.int .i64 n, u53, .int .i64 p, .int .i64 k, v54]) rfl va31 (at_cells hb108 rfl)) ?_
      refine AL.val rfl (.inl rfl) (HV.mv rfl) ?_
      refine AL.w rfl (.inl rfl) (WV.call fn25 rfl (implSO_ok n p k (hr60.ext X106) (hr61.ext X106) hr101)) ?_
      rintro _ H110 ⟨rfl, hx111⟩
      have X112 := Ext.trans X102 hx111
      have X113 := Ext.trans X103 hx111
      have X114 := Ext.trans X104 hx111
      have X115 := Ext.trans X105 hx111
      have X116 := Ext.trans X106 hx111
      have X117 := Ext.trans X109 hx111
      have hb118 := hb107.ext hx111
      have hb119 := hb108.ext hx111
      refine AL.val rfl (.inl rfl) (HV.mv rfl) ?_
      refine AL.val rfl (.inl rfl) (HV.ex rfl rfl) ?_
      refine AL.val rfl (.inl rfl) (HV.ex rfl rfl) ?_
      refine AL.val rfl (.inl rfl) (HV.as rfl) ?_
      refine AL.val rfl (.inl rfl) (HV.as rfl) ?_
      refine AL.nx ?_
      refine AW.seq ?_
      refine AW.rs ?_
      refine AL.val rfl (.inl rfl) (HV.mv rfl) ?_
      refine AL.val rfl (.inl rfl) (HV.mv rfl) ?_
      refine AL.val rfl (.inl rfl) (HV.neb Try.underlying4 rfl rfl) ?_
      refine AL.val rfl (.inl rfl) (HV.mv rfl) ?_
      cases c120 : !((soB n o p k l g) == (soB n o p k l g))
      · -- false
        refine AL.val rfl (.inr ⟨_, _, _, rfl, rfl, rfl⟩) (HV.mv rfl) ?_
        refine AL.val rfl (.inr ⟨_, _, _, rfl, rfl, rfl⟩) (HV.mv rfl) ?_
        refine AL.val rfl (.inr ⟨_, _, _, rfl, rfl, rfl⟩) (HV.nei rfl rfl) ?_
        refine AL.val rfl (.inl rfl) (HV.pickF rfl rfl) ?_
        refine AL.nx ?_
        refine AW.ifd rfl (fun c121 => ?_) (fun c121 => ?_)
        · -- then
          refine AW.rs ?_
          refine AL.val rfl (.inl rfl) (HV.as rfl) ?_
          refine AL.nx ?_
          refine AW.ret ?_
          refine ret_and ?_
          refine post_one rfl rfl ?_ (.inr rfl)
          exfalso; first | omega | (simp at c121; done) | exact c121 ⟨rfl, rfl, rfl, rfl, rfl⟩ | exact absurd c121 (by simp)
        · -- else
          refine AW.skip ?_
          refine nrm_and ?_
          refine AW.seq ?_
          refine AW.seq ?_
          refine AW.draw' [0, 0, 2, 7, 15] mixed (by rfl) ?_
          refine Dr.read 0 _ 46 _ rfl rfl rfl rfl rfl (RV.of (by intro _ _ h; cases h) (.inl rfl) (fun _ xd => HV.lda (cs := [.int .i64 n, u53, .int .i64 p, .int .i64 k, v54]) rfl va31 (fun j u hu => rdc_ext xd ((at_cells hb119 rfl) j u hu)))) ?_
          refine Dr.read 1 _ 47 _ rfl rfl rfl rfl rfl (RV.of (by intro _ _ h; cases h) (.inl rfl) (fun _ xd => HV.lda (cs := [.int .i64 n, vo, .int .i64 p, .int .i64 k, v]) rfl va27 (fun j u hu => rdc_ext xd ((at_cells hb118 rfl) j u hu)))) ?_
          refine Dr.eff 2 _ _ rfl (by intro d h; cases h; exact ⟨rfl, rfl⟩) rfl rfl rfl (EC.of (by intro _ _ h; cases h) (.inl rfl) (WV.call fn15 rfl (toSc_ok n p k (ho.ext X112) (hr.ext X112) (he18 (by omega)).1 (he18 (by omega)).2))) (fun v H' h => .inl (h.2)) ?_
          rintro _ H125 ⟨⟨u122, v123, B124, rfl, ho127, ho128⟩, hx126⟩
          have X131 := Ext.trans X112 hx126
          have X132 := Ext.trans X113 hx126
          have X133 := Ext.trans X114 hx126
          have X134 := Ext.trans X115 hx126
          have X135 := Ext.trans X116 hx126
          have X136 := Ext.trans X117 hx126
          have hb137 := hb118.ext hx126
          have hb138 := hb119.ext hx126
          have X139 := Ext.refl H125
          have hr129 := ho127.rd
          have hr130 := rd_ofO ho128.rd
          refine Dr.eff 3 _ _ rfl (by intro d h; cases h; exact ⟨rfl, rfl⟩) rfl rfl rfl (EC.of (by intro _ _ h; cases h) (.inl rfl) (WV.call fn17 rfl (eqSc_ok n p k n p k (hr60.ext X135) (hr61.ext X135) hr129 hr130))) (fun v H' h => .inl (h.2)) ?_
          rintro _ H140 ⟨rfl, hx141⟩
          have X142 := Ext.trans X131 hx141
          have X143 := Ext.trans X132 hx141
          have X144 := Ext.trans X133 hx141
          have X145 := Ext.trans X134 hx141
          have X146 := Ext.trans X135 hx141
          have X147 := Ext.trans X136 hx141
          have X148 := Ext.trans X139 hx141
          have hb149 := hb137.ext hx141
          have hb150 := hb138.ext hx141
          refine Dr.read 4 _ 50 _ rfl rfl rfl rfl rfl (RV.of (by intro _ _ h; cases h) (.inl rfl) (fun _ xd => HV.not rfl)) ?_
          refine Dr.fin rfl ?_
          refine nrm_and ?_
          refine AW.ifn rfl (fun c151 => ?_) (fun c151 => ?_)
          · -- then
            refine AW.rs ?_
            refine AL.val rfl (.inl rfl) (HV.as rfl) ?_
            refine AL.nx ?_
            refine AW.ret ?_
            refine ret_and ?_
            refine post_one rfl rfl ?_ (.inr rfl)
            exfalso; first | omega | (simp at c151; done) | exact c151 ⟨rfl, rfl, rfl, rfl, rfl⟩ | exact absurd c151 (by simp)
          · -- else
            refine AW.skip ?_
            refine nrm_and ?_
            refine AW.seq ?_
            refine AW.rs ?_
            refine AL.val rfl (.inl rfl) (HV.mv rfl) ?_
            refine AL.val rfl (.inl rfl) (HV.mv rfl) ?_
            refine AL.w rfl (.inl rfl) (WV.call fn21 rfl (toS_ok (hrg.ext X142) (by omega))) ?_
            rintro v152 H153 ⟨hx154, ho155⟩
            have X157 := Ext.trans X142 hx154
            have X158 := Ext.trans X143 hx154
            have X159 := Ext.trans X144 hx154
            have X160 := Ext.trans X145 hx154
            have X161 := Ext.trans X146 hx154
            have X162 := Ext.trans X147 hx154
            have X163 := Ext.trans X148 hx154
            have hb164 := hb149.ext hx154
            have hb165 := hb150.ext hx154
            have X166 := Ext.refl H153
            have hr156 : RdK kI W H153 _ v152 g := ho155.rd
            refine AL.w rfl (.inl rfl) (WV.call fn23 rfl (eqS_ok (hr101.ext X162) hr156)) ?_
            rintro _ H167 ⟨rfl, hx168⟩
            have X169 := Ext.trans X157 hx168
            have X170 := Ext.trans X158 hx168
            have X171 := Ext.trans X159 hx168
            have X172 := Ext.trans X160 hx168
            have X173 := Ext.trans X161 hx168
            have X174 := Ext.trans X162 hx168
            have X175 := Ext.trans X163 hx168
            have X176 := Ext.trans X166 hx168
            have hb177 := hb164.ext hx168
            have hb178 := hb165.ext hx168
            refine AL.val rfl (.inl rfl) (HV.not rfl) ?_
            refine AL.nx ?_
            refine AW.ifn rfl (fun c179 => ?_) (fun c179 => ?_)
            · -- then
              refine AW.rs ?_
              refine AL.val rfl (.inl rfl) (HV.as rfl) ?_
              refine AL.nx ?_
              refine AW.ret ?_
              refine ret_and ?_
              refine post_one rfl rfl ?_ (.inr rfl)
              exfalso; first | omega | (simp at c179; done) | exact c179 ⟨rfl, rfl, rfl, rfl, rfl⟩ | exact absurd c179 (by simp)
            · -- else
              refine AW.skip ?_
              refine nrm_and ?_
              refine AW.rs ?_
              refine AL.val rfl (.inl rfl) (HV.as rfl) ?_
              refine AL.nx ?_
              refine AW.ret ?_
              refine post_one rfl rfl ?_ (.inr rfl)
              exact ⟨rfl, X169⟩
      · -- true
        refine AL.off rfl rfl (by decide) rfl ?_
        refine AL.off rfl rfl (by decide) rfl ?_
        refine AL.off rfl rfl (by decide) rfl ?_
        refine AL.val rfl (.inl rfl) (HV.pickT rfl rfl) ?_
        refine AL.nx ?_
        refine AW.cond rfl (fun _ => ?_) (fun h => by cases h)
        refine AW.rs ?_
        refine AL.val rfl (.inl rfl) (HV.as rfl) ?_
        refine AL.nx ?_
        refine AW.ret ?_
        refine ret_and ?_
        refine post_one rfl rfl ?_ (.inr rfl)
        exfalso; first | omega | (simp at c120; done) | exact c120 ⟨rfl, rfl, rfl, rfl, rfl⟩ | exact absurd c120 (by simp)

set_option maxRecDepth 100000 in
theorem dot_ok {va vb : Value} {la lb : List Int} {ok ok2 : Nat → Prop} {p : Int} (hr : RdK kI W H ok va la) (hr2 : RdK kI W H ok2 vb lb) (hp : 2 ≤ p ∧ p ≤ 31) (hla : elems p la) (hlb : elems p lb) (hl : la.length = lb.length ∧ la.length ≤ 40) : ACalls Try.prog W 89 #[.int .i64 p, va, vb] H (fun r H' => r = .int .i64 (dotI la lb la.length % p) ∧ Ext H H') := by
  refine ACalls.of (args := [.int .i64 p, va, vb]) Try.func89 rfl rfl ?_
  have X0 := Ext.refl H
  have hm1 := hr.max
  have hm2 := hr2.max
  refine AW.rs ?_
  refine AL.val rfl (.inl rfl) (HV.as rfl) ?_
  refine AL.nx ?_
  refine AW.rs ?_
  refine AL.val rfl (.inl rfl) (HV.as rfl) ?_
  refine AL.nx ?_
  refine AW.seq ?_
  refine AW.rs ?_
  refine AL.val rfl (.inl rfl) (HV.mv rfl) ?_
  refine AL.val rfl (.inl rfl) (HV.len Try.underlying22 rfl hr.isSl) ?_
  refine AL.val rfl (.inl rfl) (HV.mv rfl) ?_
  refine AL.nx ?_
  refine AW.block ?_
  refine AW.loop (σ := Nat × Int) (fun ⟨i, s⟩ => [(0, .int .i64 p), (2, vb), (6, .int .i64 0), (10, va), (11, .int .i64 (la.length : Int)), (7, .int .i64 s), (12, .int .i64 (i : Int))]) (fun ⟨i, s⟩ H' => Ext H H' ∧ i ≤ la.length ∧ s = dotI la lb i ∧ True) (fun ⟨i, s⟩ => la.length - i) (0, 0) ⟨X0, Nat.zero_le _, rfl, trivial⟩ ⟨rfl, rfl, rfl, rfl, rfl, rfl, rfl, trivial⟩ ?_
  rintro ⟨i, s⟩ H3 ⟨X4, hi, hs, _⟩
  have hsb := dotI_in hp hla hlb i
  rw [← hs] at hsb
  refine AW.rs ?_
  refine AL.val rfl (.inl rfl) (HV.lti rfl rfl) ?_
  refine AL.nx ?_
  refine AW.seq ?_
  refine AW.ifd rfl (fun c5 => ?_) (fun c5 => ?_)
  · -- then
    refine AW.skip ?_
    refine nrm_and ?_
    refine AW.seq ?_
    refine AW.block ?_
    refine AW.rs ?_
    refine AL.val rfl (.inl rfl) (HV.mv rfl) ?_
    obtain ⟨p6, z7, cs8, hz9, hK10, hC11, hP12⟩ := RdK.ix (q := (i : Int)) hr sl22 (by omega) (by omega)
    obtain rfl : cs8 = [.int .i64 z7] := hK10
    refine AL.val rfl (.inl rfl) (hP12 rfl rfl) ?_
    refine AL.val rfl (.inl rfl) (HV.ld rfl va2 (cells_first (hC11.ext X4) rfl)) ?_
    refine AL.val rfl (.inl rfl) (HV.as rfl) ?_
    refine AL.val rfl (.inl rfl) (HV.as rfl) ?_
    refine AL.nx ?_
    refine AW.reg ?_
    refine AL.val rfl (.inl rfl) (HV.mv rfl) ?_
    refine AL.val rfl (.inl rfl) (HV.mv rfl) ?_
    refine AL.val rfl (.inl rfl) (HV.mv rfl) ?_
    refine AL.val rfl (.inl rfl) (HV.mv rfl) ?_
    obtain ⟨p13, z14, cs15, hz16, hK17, hC18, hP19⟩ := RdK.ix (q := (i : Int)) hr2 sl22 (by omega) (by omega)
    obtain rfl : cs15 = [.int .i64 z14] := hK17
    refine AL.val rfl (.inl rfl) (hP19 rfl rfl) ?_
    refine AL.val rfl (.inl rfl) (HV.ld rfl va2 (cells_first (hC18.ext X4) rfl)) ?_
    have b15 := elem_at hla hz9
    have b21 := elem_at hlb hz16
    have q23 := mul31 (a := z7) (b := z14) (by omega) (by omega) (by omega) (by omega)
    refine AL.val rfl (.inl rfl) (HV.mul rfl rfl (by omega)) ?_
    refine AL.val rfl (.inl rfl) (HV.add rfl rfl (by omega)) ?_
    refine AL.val rfl (.inl rfl) (HV.as rfl) ?_
    refine AL.nil ?_
    refine nrm_blk (nrm_and ?_)
    refine AW.reg ?_
    refine AL.val rfl (.inl rfl) (HV.add rfl rfl (by omega)) ?_
    refine AL.val rfl (.inl rfl) (HV.mv rfl) ?_
    refine AL.nil ?_
    refine nrm_and ?_
    exact ⟨(i + 1, s + (z7 * z14)), ⟨X4, by omega, by rw [dotI_succ, (gd hz9 rfl : la.getD i 0 = z7), (gd hz16 rfl : lb.getD i 0 = z14), hs], trivial⟩, by first | omega | (dsimp only; omega), ⟨rfl, rfl, rfl, rfl, rfl, rfl, rfl, trivial⟩⟩
  · -- else
    refine AW.exit ?_
    refine ex_and (ex_and (ex_blk ?_))
    refine nrm_and ?_
    refine AW.rs ?_
    refine AL.val rfl (.inl rfl) (HV.mv rfl) ?_
    refine AL.val rfl (.inl rfl) (HV.mv rfl) ?_
    refine AL.val rfl (.inl rfl) (HV.rem rfl rfl (by omega)) ?_
    refine AL.val rfl (.inl rfl) (HV.as rfl) ?_
    refine AL.nx ?_
    refine AW.ret ?_
    refine post_one rfl rfl ?_ (.inr rfl)
    exact ⟨by have e : s = dotI la lb la.length := (by rw [hs, show i = la.length by omega]); rw [e], X4⟩

set_option maxRecDepth 100000 in
theorem l03Dot_ok {va vb : Value} {la lb : List Int} {ok ok2 : Nat → Prop} {p : Int} (hr : RdK kI W H ok va la) (hr2 : RdK kI W H ok2 vb lb) (hp : 2 ≤ p ∧ p ≤ 31) (hla : elems p la) (hlb : elems p lb) (hl : la.length = lb.length ∧ la.length ≤ 40) : ACalls Try.prog W 88 #[.int .i64 p, va, vb] H (fun r H' => r = .int .i64 (dotI la lb la.length % p) ∧ Ext H H') := by
  refine ACalls.of (args := [.int .i64 p, va, vb]) Try.func88 rfl rfl ?_
  have X0 := Ext.refl H
  have hm1 := hr.max
  have hm2 := hr2.max
  refine AW.rs ?_
  refine AL.val rfl (.inl rfl) (HV.as rfl) ?_
  refine AL.nx ?_
  refine AW.rs ?_
  refine AL.val rfl (.inl rfl) (HV.as rfl) ?_
  refine AL.nx ?_
  refine AW.seq ?_
  refine AW.rs ?_
  refine AL.val rfl (.inl rfl) (HV.as rfl) ?_
  refine AL.nx ?_
  refine AW.block ?_
  refine AW.loop (σ := Nat × Int) (fun ⟨i, s⟩ => [(0, .int .i64 p), (1, va), (2, vb), (6, .int .i64 0), (7, .int .i64 s), (8, .int .i64 (i : Int))]) (fun ⟨i, s⟩ H' => Ext H H' ∧ i ≤ la.length ∧ s = dotI la lb i ∧ True) (fun ⟨i, s⟩ => la.length - i) (0, 0) ⟨X0, Nat.zero_le _, rfl, trivial⟩ ⟨rfl, rfl, rfl, rfl, rfl, rfl, trivial⟩ ?_
  rintro ⟨i, s⟩ H3 ⟨X4, hi, hs, _⟩
  have hsb := dotI_in hp hla hlb i
  rw [← hs] at hsb
  refine AW.seq ?_
  refine AW.rs ?_
  refine AL.val rfl (.inl rfl) (HV.mv rfl) ?_
  refine AL.val rfl (.inl rfl) (HV.mv rfl) ?_
  refine AL.val rfl (.inl rfl) (HV.len Try.underlying22 rfl hr.isSl) ?_
  refine AL.val rfl (.inl rfl) (HV.lti rfl rfl) ?_
  refine AL.nx ?_
  refine AW.ifd rfl (fun c5 => ?_) (fun c5 => ?_)
  · -- then
    refine AW.skip ?_
    refine nrm_and ?_
    refine AW.seq ?_
    refine AW.block ?_
    refine AW.draw' [0, 0, 0, 6, 14, 0, 0, 96, 224, 510, 1023, 2047] mixed (by rfl) ?_
    refine Dr.read 0 _ 15 _ rfl rfl rfl rfl rfl (RV.of (by intro _ _ h; cases h) (.inl rfl) (fun _ xd => HV.mv rfl)) ?_
    refine Dr.read 1 _ 16 _ rfl rfl rfl rfl rfl (RV.of (by intro _ _ h; cases h) (.inl rfl) (fun _ xd => HV.mv rfl)) ?_
    refine Dr.read 2 _ 17 _ rfl rfl rfl rfl rfl (RV.of (by intro _ _ h; cases h) (.inl rfl) (fun _ xd => HV.mv rfl)) ?_
    obtain ⟨p6, z7, cs8, hz9, hK10, hC11, hP12⟩ := RdK.ix (q := (i : Int)) hr sl22 (by omega) (by omega)
    obtain rfl : cs8 = [.int .i64 z7] := hK10
    refine Dr.read 3 _ 18 _ rfl rfl rfl rfl rfl (RV.of (by intro _ _ h; cases h) (.inl rfl) (fun _ xd => hP12 rfl rfl)) ?_
    refine Dr.read 4 _ 19 _ rfl rfl rfl rfl rfl (RV.of (by intro _ _ h; cases h) (.inl rfl) (fun _ xd => HV.ld rfl va2 (rdc_ext xd (cells_first (hC11.ext X4) rfl)))) ?_
    refine Dr.read 5 _ 20 _ rfl rfl rfl rfl rfl (RV.of (by intro _ _ h; cases h) (.inl rfl) (fun _ xd => HV.mv rfl)) ?_
    refine Dr.read 6 _ 21 _ rfl rfl rfl rfl rfl (RV.of (by intro _ _ h; cases h) (.inl rfl) (fun _ xd => HV.mv rfl)) ?_
    obtain ⟨p13, z14, cs15, hz16, hK17, hC18, hP19⟩ := RdK.ix (q := (i : Int)) hr2 sl22 (by omega) (by omega)
    obtain rfl : cs15 = [.int .i64 z14] := hK17
    refine Dr.read 7 _ 22 _ rfl rfl rfl rfl rfl (RV.of (by intro _ _ h; cases h) (.inl rfl) (fun _ xd => hP19 rfl rfl)) ?_
    refine Dr.read 8 _ 23 _ rfl rfl rfl rfl rfl (RV.of (by intro _ _ h; cases h) (.inl rfl) (fun _ xd => HV.ld rfl va2 (rdc_ext xd (cells_first (hC18.ext X4) rfl)))) ?_
    have b15 := elem_at hla hz9
    have b21 := elem_at hlb hz16
    have q23 := mul31 (a := z7) (b := z14) (by omega) (by omega) (by omega) (by omega)
    refine Dr.read 9 _ 24 _ rfl rfl rfl rfl rfl (RV.of (by intro _ _ h; cases h) (.inl rfl) (fun _ xd => HV.mul rfl rfl (by omega))) ?_
    refine Dr.read 10 _ 25 _ rfl rfl rfl rfl rfl (RV.of (by intro _ _ h; cases h) (.inl rfl) (fun _ xd => HV.add rfl rfl (by omega))) ?_
    refine Dr.eff 11 _ _ rfl (by intro d h; cases h; exact ⟨rfl, rfl⟩) rfl rfl rfl (EC.of (by intro _ _ h; cases h) (.inl rfl) (WV.ofHV (HV.as rfl))) (fun v H' h => .inl (h.2 ▸ Ext.refl _)) ?_
    rintro u_ h_ ⟨e1_, e2_⟩
    rw [e1_, e2_]
    clear e1_ e2_ u_ h_
    refine Dr.fin rfl ?_
    refine nrm_blk (nrm_and ?_)
    refine AW.reg ?_
    refine AL.val rfl (.inl rfl) (HV.mv rfl) ?_
    refine AL.val rfl (.inl rfl) (HV.add rfl rfl (by omega)) ?_
    refine AL.val rfl (.inl rfl) (HV.as rfl) ?_
    refine AL.nil ?_
    refine nrm_and ?_
    exact ⟨(i + 1, s + (z7 * z14)), ⟨X4, by omega, by rw [dotI_succ, (gd hz9 rfl : la.getD i 0 = z7), (gd hz16 rfl : lb.getD i 0 = z14), hs], trivial⟩, by first | omega | (dsimp only; omega), ⟨rfl, rfl, rfl, rfl, rfl, rfl, trivial⟩⟩
  · -- else
    refine AW.exit ?_
    refine ex_and (ex_and (ex_blk ?_))
    refine nrm_and ?_
    refine AW.rs ?_
    refine AL.val rfl (.inl rfl) (HV.mv rfl) ?_
    refine AL.val rfl (.inl rfl) (HV.mv rfl) ?_
    refine AL.val rfl (.inl rfl) (HV.rem rfl rfl (by omega)) ?_
    refine AL.val rfl (.inl rfl) (HV.as rfl) ?_
    refine AL.nx ?_
    refine AW.ret ?_
    refine post_one rfl rfl ?_ (.inr rfl)
    exact ⟨by have e : s = dotI la lb la.length := (by rw [hs, show i = la.length by omega]); rw [e], X4⟩

set_option maxRecDepth 100000 in
theorem specRB_ok {vo v : Value} {o : List Int} {l : List (List Int)} {oko ok : Nat → Prop} (n p k : Int) (ho : RdK kI W H oko vo o) (hr : RdK (kR kI) W H ok v l) {vg : Value} {g : List Int} {okg : Nat → Prop} (hrg : RdK kI W H okg vg g) {vh : Value} {h : List Int} {okh : Nat → Prop} (hrh : RdK kI W H okh vh h) : ACalls Try.prog W 32 #[.agg #[.int .i64 n, vo, .int .i64 p, .int .i64 k, v], vg, vh] H (fun r H' => r = .tuple #[.int .i64 (rbV n o p k l g h), .int .i64 (rbC n o p k l g h)] ∧ Ext H H') := by
  refine ACalls.of (args := [.agg #[.int .i64 n, vo, .int .i64 p, .int .i64 k, v], vg, vh]) Try.func32 rfl rfl ?_
  have X0 := Ext.refl H
  have hm1 := ho.max
  have hm2 := hr.max
  have hm3 := hrg.max
  have hm4 := hrh.max
  refine AW.rs ?_
  refine AL.w rfl (.inl rfl) (WV.bx rfl rfl) ?_
  rintro _ H6 ⟨b5, rfl, hx7, hn8, hb9⟩
  have o10 := Nat.le_trans X0.bd hn8
  have X11 := Ext.trans X0 hx7
  have X12 := Ext.refl H6
  refine AL.val rfl (.inl rfl) (HV.as rfl) ?_
  refine AL.val rfl (.inl rfl) (HV.as rfl) ?_
  refine AL.nx ?_
  refine AW.seq ?_
  refine AW.rs ?_
  refine AL.val rfl (.inl rfl) (HV.mv rfl) ?_
  refine AL.val rfl (.inl rfl) (HV.mv rfl) ?_
  refine AL.w rfl (.inl rfl) (WV.call fn69 rfl (l04With_ok n p k (ho.ext X11) (hr.ext X11) (at_cells hb9 rfl) (hrg.ext X11) (hrh.ext X11))) ?_
  rintro _ H13 ⟨rfl, hx14⟩
  have X15 := Ext.trans X11 hx14
  have X16 := Ext.trans X12 hx14
  have hb17 := hb9.ext hx14
  refine AL.val rfl (.inl rfl) (HV.as rfl) ?_
  refine AL.nx ?_
  refine AW.rs ?_
  refine AL.val rfl (.inl rfl) (HV.mv rfl) ?_
  refine AL.val rfl (.inl rfl) (HV.nei rfl rfl) ?_
  refine AL.nx ?_
  refine AW.ifd rfl (fun c18 => ?_) (fun c18 => ?_)
  · -- then
    refine AW.rs ?_
    refine AL.val rfl (.inl rfl) (HV.mv rfl) ?_
    refine AL.val rfl (.inl rfl) (HV.as rfl) ?_
    refine AL.val rfl (.inl rfl) (HV.as rfl) ?_
    refine AL.nx ?_
    refine AW.ret ?_
    refine ret_and ?_
    refine post_two rfl rfl rfl ?_ (.inr rfl)
    exact ⟨by unfold rbV rbC; rw [if_neg (fun q => absurd q.1 (by assumption)), if_neg (by assumption)], X15⟩
  · -- else
    refine AW.skip ?_
    refine nrm_and ?_
    refine AW.rs ?_
    obtain ⟨hok, hg, hh1, hh2⟩ := withC_z (show withC n o p k l g h = 0 by omega)
    have hF := okSc_f hok
    have hp := hF.pb
    have hk1 := hF.k1
    have hk0 := hF.k0
    have hF1 := hF.R
    have hF2 := hF.ol
    obtain ⟨hP1, hP2, hP3⟩ := hF.part g
    obtain ⟨hO1, hO2, hO3⟩ := hF.opn g
    refine AL.val rfl (.inl rfl) (HV.mv rfl) ?_
    have X19 := Ext.refl H13
    have y20 := hb17.lt
    have o21 := X15.bd
    have o22 := X16.bd
    have o23 := X19.bd
    refine AL.w rfl (.inl rfl) (WV.call fn70 rfl (l04Part_ok n p k (ho.ext X15) (hr.ext X15) (at_cells hb17 rfl) (hrg.ext X15) hok)) ?_
    rintro _ H25 ⟨⟨u24, rfl, ho27⟩, hx26⟩
    have X28 := Ext.trans X15 hx26
    have X29 := Ext.trans X16 hx26
    have X30 := Ext.trans X19 hx26
    have hb31 := hb17.ext hx26
    have X32 := Ext.refl H25
    have hr33 := rd_ofO ho27.rd
    refine AL.w rfl (.inl rfl) (WV.al ze29 rfl) ?_
    rintro _ H35 ⟨b34, rfl, hx36, hn37, hb38⟩
    have o39 := Nat.le_trans X28.bd hn37
    have o40 := Nat.le_trans X29.bd hn37
    have o41 := Nat.le_trans X30.bd hn37
    have o42 := Nat.le_trans X32.bd hn37
    have ne43 : b5 ≠ b34 := by have := hb31.lt; omega
    have X44 := Ext.trans X28 hx36
    have X45 := Ext.trans X29 hx36
    have X46 := Ext.trans X30 hx36
    have X47 := Ext.trans X32 hx36
    have hb48 := hb31.ext hx36
    have X49 := Ext.refl H35
    refine AL.w0 (.inl rfl) (WV.st rfl rfl va29 rfl hb38 (Nat.le_of_ble_eq_true rfl) (one_cons rfl (one_cons rfl (one_cons (sl_one1 (hr33.ext X47).isSl) one_nil)))) ?_
    rintro _ H50 ⟨hx51, hb52⟩
    have X53 := Ext.thru X44 hx51 (fun z_ hz_ => by rw [hz_]; exact o39)
    have X54 := Ext.thru X45 hx51 (fun z_ hz_ => by rw [hz_]; exact o40)
    have X55 := Ext.thru X46 hx51 (fun z_ hz_ => by rw [hz_]; exact o41)
    have X56 := Ext.thru X47 hx51 (fun z_ hz_ => by rw [hz_]; exact o42)
    have hb58 := hb48.but hx51 ne43
    have hb59 : At W H50 b34 ⟨29, [.int .i64 p, .int .i64 k, u24], 3⟩ := hb52
    refine AL.nx ?_
    refine AW.rs ?_
    refine AL.val rfl (.inl rfl) (HV.fa fl31_2 rfl) ?_
    refine AL.val rfl (.inl rfl) (HV.fa fl29_1 rfl) ?_
    refine AL.val rfl (.inl rfl) (HV.ld rfl va2 (at_cell_add (j := 3) hb58 rfl)) ?_
    refine AL.w rfl (.inl rfl) (WV.call fn81 rfl (l04First_ok (W := W) k (by omega))) ?_
    rintro v60 H61 ⟨hx62, ho63⟩
    have X65 := Ext.trans X53 hx62
    have X66 := Ext.trans X54 hx62
    have X67 := Ext.trans X55 hx62
    have X68 := Ext.trans X56 hx62
    have hb69 := hb58.ext hx62
    have hb70 := hb59.ext hx62
    have X71 := Ext.refl H61
    have hr64 : RdK kI W H61 _ v60 (unitL (k : Int).toNat 0) := ho63.rd
    have y72 := hb69.lt
    have y73 := hb70.lt
    have o74 := X65.bd
    have o75 := X66.bd
    have o76 := X67.bd
    have o77 := X68.bd
    have o78 := X71.bd
    refine AL.w rfl (.inl rfl) (WV.call fn80 rfl (specComb_ok p k (hr33.ext X68) (at_cells hb70 rfl) hr64 (K := k.toNat) hF.q hk0 hP1 (by omega) (by rw [partL_len]; omega) (unitL_in (by omega) _ _) (unitL_len _ _))) ?_
    rintro _ H80 ⟨⟨u79, rfl, hv82⟩, hx81⟩
    have X83 := Ext.trans X65 hx81
    have X84 := Ext.trans X66 hx81
    have X85 := Ext.trans X67 hx81
    have X86 := Ext.trans X68 hx81
    have X87 := Ext.trans X71 hx81
    have hb88 := hb69.ext hx81
    have hb89 := hb70.ext hx81
    have X90 := Ext.refl H80
    have hr91 := hv82.rd
    refine AL.val rfl (.inl rfl) (HV.mv rfl) ?_
    refine AL.val rfl (.inl rfl) (HV.ex rfl rfl) ?_
    refine AL.val rfl (.inl rfl) (HV.ex rfl rfl) ?_
    refine AL.val rfl (.inl rfl) (HV.as rfl) ?_
    refine AL.val rfl (.inl rfl) (HV.as rfl) ?_
    refine AL.nx ?_
    refine AW.seq ?_
    refine AW.rs ?_
    refine AL.val rfl (.inl rfl) (HV.mv rfl) ?_
    refine AL.val rfl (.inl rfl) (HV.not rfl) ?_
    refine AL.nx ?_
    refine AW.cond rfl (fun c92 => ?_) (fun c92 => ?_)
    · -- then
      refine AW.rs ?_
      refine AL.val rfl (.inl rfl) (HV.as rfl) ?_
      refine AL.val rfl (.inl rfl) (HV.as rfl) ?_
      refine AL.nx ?_
      refine AW.ret ?_
      refine ret_and ?_
      refine post_two rfl rfl rfl ?_ (.inr rfl)
      have hb : (openX p k o l g).2 = false := bnot_t c92; exact ⟨by unfold rbV rbC; rw [if_neg (fun q => by have q2 := q.2.1; rw [hb] at q2; cases q2), if_pos (show withC n o p k l g h = 0 by omega), if_neg (fun q => by rw [hb] at q; cases q)], X83⟩
    · -- else
      refine AW.skip ?_
      refine nrm_and ?_
      refine AW.seq ?_
      refine AW.rs ?_
      have hox : (openX p k o l g).2 = true := bnot_f c92
      refine AL.val rfl (.inl rfl) (HV.mv rfl) ?_
      have y93 := hb88.lt
      have y94 := hb89.lt
      have o95 := X83.bd
      have o96 := X84.bd
      have o97 := X85.bd
      have o98 := X86.bd
      have o99 := X87.bd
      have o100 := X90.bd
      refine AL.w rfl (.inl rfl) (WV.call fn71 rfl (specSol_ok p k (hr33.ext X86) (at_cells hb89 rfl) (hrh.ext X83) hF.q hk0 hP1 (by omega) (by rw [partL_len]; omega) hh1 (by rw [partL_len]; exact hh2))) ?_
      rintro _ H102 ⟨⟨v101, rfl, hv104⟩, hx103⟩
      have X105 := Ext.trans X83 hx103
      have X106 := Ext.trans X84 hx103
      have X107 := Ext.trans X85 hx103
      have X108 := Ext.trans X86 hx103
      have X109 := Ext.trans X87 hx103
      have X110 := Ext.trans X90 hx103
      have hb111 := hb88.ext hx103
      have hb112 := hb89.ext hx103
      have X113 := Ext.refl H102
      have hr114 := hv104.rd
      refine AL.val rfl (.inl rfl) (HV.mv rfl) ?_
      refine AL.val rfl (.inl rfl) (HV.ex rfl rfl) ?_
      refine AL.val rfl (.inl rfl) (HV.ex rfl rfl) ?_
      refine AL.val rfl (.inl rfl) (HV.as rfl) ?_
      refine AL.val rfl (.inl rfl) (HV.as rfl) ?_
      refine AL.nx ?_
      refine AW.rs ?_
      refine AL.val rfl (.inl rfl) (HV.mv rfl) ?_
      refine AL.val rfl (.inl rfl) (HV.not rfl) ?_
      refine AL.nx ?_
      refine AW.cond rfl (fun c115 => ?_) (fun c115 => ?_)
      · -- then
        refine AW.rs ?_
        refine AL.val rfl (.inl rfl) (HV.as rfl) ?_
        refine AL.val rfl (.inl rfl) (HV.as rfl) ?_
        refine AL.nx ?_
        refine AW.ret ?_
        refine ret_and ?_
        refine post_two rfl rfl rfl ?_ (.inr rfl)
        have hcb : conB n o p k l g h = (solM p k.toNat (besL (partL l (idxG o g)) [h] (partL l (idxG o g)).length)).2 := (by unfold conB; rw [if_pos (show withC n o p k l g h = 0 by omega)]); have hb := hcb.trans (bnot_t c115); exact ⟨by unfold rbV rbC; rw [if_neg (fun q => by have q2 := q.2.2; rw [hb] at q2; cases q2), if_pos (show withC n o p k l g h = 0 by omega), if_pos hox, if_neg (fun q => by rw [hb] at q; cases q)], X105⟩
      · -- else
        refine AW.skip ?_
        refine nrm_and ?_
        refine AW.rs ?_
        have hos : (solM p k.toNat (besL (partL l (idxG o g)) [h] (partL l (idxG o g)).length)).2 = true := bnot_f c115
        refine AL.val rfl (.inl rfl) (HV.fa fl31_2 rfl) ?_
        refine AL.val rfl (.inl rfl) (HV.fa fl29_0 rfl) ?_
        refine AL.val rfl (.inl rfl) (HV.ld rfl va2 (at_cell_add (j := 2) hb111 rfl)) ?_
        refine AL.val rfl (.inl rfl) (HV.mv rfl) ?_
        refine AL.val rfl (.inl rfl) (HV.mv rfl) ?_
        refine AL.w rfl (.inl rfl) (WV.call fn88 rfl (l03Dot_ok (hr91.ext X110) (hrh.ext X105) hp hO1 hh1 ⟨(hO2 hox).trans hh2.symm, Nat.le_trans hO3 (by decide)⟩)) ?_
        rintro _ H116 ⟨rfl, hx117⟩
        have X118 := Ext.trans X105 hx117
        have X119 := Ext.trans X106 hx117
        have X120 := Ext.trans X107 hx117
        have X121 := Ext.trans X108 hx117
        have X122 := Ext.trans X109 hx117
        have X123 := Ext.trans X110 hx117
        have X124 := Ext.trans X113 hx117
        have hb125 := hb111.ext hx117
        have hb126 := hb112.ext hx117
        refine AL.val rfl (.inl rfl) (HV.as rfl) ?_
        refine AL.val rfl (.inl rfl) (HV.as rfl) ?_
        refine AL.nx ?_
        refine AW.ret ?_
        refine post_two rfl rfl rfl ?_ (.inr rfl)
        have hcb : conB n o p k l g h = (solM p k.toNat (besL (partL l (idxG o g)) [h] (partL l (idxG o g)).length)).2 := (by unfold conB; rw [if_pos (show withC n o p k l g h = 0 by omega)]); have hb := hcb.trans hos; exact ⟨by unfold rbV rbC; rw [if_pos ⟨(show withC n o p k l g h = 0 by omega), hox, hb⟩, if_pos (show withC n o p k l g h = 0 by omega), if_pos hox, if_pos hb]; (try rfl), X118⟩

set_option maxRecDepth 100000 in
theorem implRB_ok {vo v : Value} {o : List Int} {l : List (List Int)} {oko ok : Nat → Prop} (n p k : Int) (ho : RdK kI W H oko vo o) (hr : RdK (kR kI) W H ok v l) {vg : Value} {g : List Int} {okg : Nat → Prop} (hrg : RdK kI W H okg vg g) {vh : Value} {h : List Int} {okh : Nat → Prop} (hrh : RdK kI W H okh vh h) : ACalls Try.prog W 33 #[.agg #[.int .i64 n, vo, .int .i64 p, .int .i64 k, v], vg, vh] H (fun r H' => r = .tuple #[.int .i64 (rbV n o p k l g h), .int .i64 (rbC n o p k l g h)] ∧ Ext H H') := by
  refine ACalls.of (args := [.agg #[.int .i64 n, vo, .int .i64 p, .int .i64 k, v], vg, vh]) Try.func33 rfl rfl ?_
  have X0 := Ext.refl H
  have hm1 := ho.max
  have hm2 := hr.max
  have hm3 := hrg.max
  have hm4 := hrh.max
  refine AW.rs ?_
  refine AL.w rfl (.inl rfl) (WV.bx rfl rfl) ?_
  rintro _ H6 ⟨b5, rfl, hx7, hn8, hb9⟩
  have o10 := Nat.le_trans X0.bd hn8
  have X11 := Ext.trans X0 hx7
  have X12 := Ext.refl H6
  refine AL.val rfl (.inl rfl) (HV.as rfl) ?_
  refine AL.val rfl (.inl rfl) (HV.as rfl) ?_
  refine AL.nx ?_
  refine AW.seq ?_
  refine AW.rs ?_
  refine AL.val rfl (.inl rfl) (HV.lda (cs := [.int .i64 n, vo, .int .i64 p, .int .i64 k, v]) rfl va31 (at_cells hb9 rfl)) ?_
  refine AL.val rfl (.inl rfl) (HV.mv rfl) ?_
  refine AL.val rfl (.inl rfl) (HV.mv rfl) ?_
  refine AL.w rfl (.inl rfl) (WV.call fn72 rfl (heldCode_ok n p k (ho.ext X11) (hr.ext X11) (hrg.ext X11) (hrh.ext X11))) ?_
  rintro _ H13 ⟨rfl, hx14⟩
  have X15 := Ext.trans X11 hx14
  have X16 := Ext.trans X12 hx14
  have hb17 := hb9.ext hx14
  refine AL.val rfl (.inl rfl) (HV.as rfl) ?_
  refine AL.nx ?_
  refine AW.rs ?_
  refine AL.val rfl (.inl rfl) (HV.mv rfl) ?_
  refine AL.val rfl (.inl rfl) (HV.nei rfl rfl) ?_
  refine AL.nx ?_
  refine AW.ifd rfl (fun c18 => ?_) (fun c18 => ?_)
  · -- then
    refine AW.rs ?_
    refine AL.val rfl (.inl rfl) (HV.mv rfl) ?_
    refine AL.val rfl (.inl rfl) (HV.as rfl) ?_
    refine AL.val rfl (.inl rfl) (HV.as rfl) ?_
    refine AL.nx ?_
    refine AW.ret ?_
    refine ret_and ?_
    refine post_two rfl rfl rfl ?_ (.inr rfl)
    exact ⟨by unfold rbV rbC; rw [if_neg (fun q => absurd q.1 (by assumption)), if_neg (by assumption)], X15⟩
  · -- else
    refine AW.skip ?_
    refine nrm_and ?_
    refine AW.seq ?_
    refine AW.draw' [0, 0, 2, 7, 0, 31] mixed (by rfl) ?_
    obtain ⟨hok, hg, hh1, hh2⟩ := withC_z (show withC n o p k l g h = 0 by omega)
    have hF := okSc_f hok
    have hp := hF.pb
    have hk1 := hF.k1
    have hk0 := hF.k0
    have hF1 := hF.R
    have hF2 := hF.ol
    obtain ⟨hP1, hP2, hP3⟩ := hF.part g
    obtain ⟨hO1, hO2, hO3⟩ := hF.opn g
    refine Dr.read 0 _ 21 _ rfl rfl rfl rfl rfl (RV.of (by intro _ _ h; cases h) (.inl rfl) (fun _ xd => HV.lda (cs := [.int .i64 n, vo, .int .i64 p, .int .i64 k, v]) rfl va31 (fun j u hu => rdc_ext xd ((at_cells hb17 rfl) j u hu)))) ?_
    refine Dr.read 1 _ 22 _ rfl rfl rfl rfl rfl (RV.of (by intro _ _ h; cases h) (.inl rfl) (fun _ xd => HV.mv rfl)) ?_
    refine Dr.eff2 2 4 _ _ _ _  rfl rfl  (by intro d h; cases h; exact ⟨rfl, rfl⟩) (by intro d h; cases h; exact ⟨rfl, rfl⟩) rfl rfl  rfl rfl rfl  (EC.of (by intro _ _ h; cases h) (.inl rfl) (WV.call fn74 rfl (crowdOf_ok (hrg.ext X15) (by skip; exact ris_low hF.hn hg)))) (EC.of (by intro _ _ h; cases h) (.inl rfl) (WV.al ze29 rfl)) (fun v H' h => .inl (h.2)) (fun v H' h => .inl (h.choose_spec.2.1)) ?_ ?_ 
    · -- 2 first
      rintro _ H26 ⟨rfl, hx27⟩
      have X28 := Ext.trans X15 hx27
      have X29 := Ext.trans X16 hx27
      have hb30 := hb17.ext hx27
      have X31 := Ext.refl H26
      have y32 := hb30.lt
      have o33 := X28.bd
      have o34 := X29.bd
      have o35 := X31.bd
      refine Dr.eff2 3 4 _ _ _ _  rfl rfl  (by intro d h; cases h; exact ⟨rfl, rfl⟩) (by intro d h; cases h; exact ⟨rfl, rfl⟩) rfl rfl  rfl rfl rfl  (EC.of (by intro _ _ h; cases h) (.inl rfl) (WV.call fn73 rfl (held_ok n p k (ho.ext X28) (hr.ext X28) hok hg))) (EC.of (by intro _ _ h; cases h) (.inl rfl) (WV.al ze29 rfl)) (fun v H' h => .inl (h.2)) (fun v H' h => .inl (h.choose_spec.2.1)) ?_ ?_ 
      · -- 3 first
        have X47 := Ext.refl H26
        have y48 := hb30.lt
        have o49 := X28.bd
        have o50 := X29.bd
        have o51 := X47.bd
        rintro _ H53 ⟨⟨u52, rfl, ho55⟩, hx54⟩
        have X58 := Ext.trans X28 hx54
        have X59 := Ext.trans X29 hx54
        have X60 := Ext.trans X47 hx54
        have hb61 := hb30.ext hx54
        have X62 := Ext.refl H53
        have hr56 : RdK (kR kI) W H53 (fun b => H26.bd ≤ b ∧ b < H53.bd) u52 (partL l (idxG o g)) := (rd_ofO ho55.rd).okk (fun b hb hlt => ⟨hb, hlt⟩)
        refine Dr.eff 4 _ _ rfl (by intro d h; cases h; exact ⟨rfl, rfl⟩) rfl rfl rfl (EC.of (by intro _ _ h; cases h) (.inl rfl) (WV.al ze29 rfl)) (fun v H' h => .inl (h.choose_spec.2.1)) ?_
        rintro _ H64 ⟨b63, rfl, hx65, hn66, hb67⟩
        have o68 := Nat.le_trans X58.bd hn66
        have o69 := Nat.le_trans X59.bd hn66
        have o70 := Nat.le_trans X60.bd hn66
        have o71 := Nat.le_trans X62.bd hn66
        have ne72 : b5 ≠ b63 := by have := hb61.lt; omega
        have X73 := Ext.trans X58 hx65
        have X74 := Ext.trans X59 hx65
        have X75 := Ext.trans X60 hx65
        have X76 := Ext.trans X62 hx65
        have ho77 := hr56.ext hx65
        have hb78 := hb61.ext hx65
        have X79 := Ext.refl H64
        refine Dr.eff 5 _ _ rfl (by intro d h; cases h) rfl rfl rfl (EC.of (by intro _ _ h; cases h) (.inl rfl) (WV.st rfl rfl va29 rfl hb67 (Nat.le_of_ble_eq_true rfl) (one_cons rfl (one_cons rfl (one_cons (sl_one1 ho77.isSl) one_nil))))) (fun v H' h => .inr (.inl rfl)) ?_
        rintro _ H80 ⟨hx81, hb82⟩
        have X83 := Ext.thru X73 hx81 (fun z_ hz_ => by rw [hz_]; exact o68)
        have X84 := Ext.thru X74 hx81 (fun z_ hz_ => by rw [hz_]; exact o69)
        have X85 := Ext.thru X75 hx81 (fun z_ hz_ => by rw [hz_]; exact o70)
        have X86 := Ext.thru X76 hx81 (fun z_ hz_ => by rw [hz_]; exact o71)
        have ho88 := ho77.but hx81 (fun b hb _ e => by have h1 : H26.bd ≤ b ∧ b < H53.bd := hb; have h2 : b = b63 := e; omega) (fun z_ hz_ => by rw [hz_]; exact hb67.w)
        have hb89 := hb78.but hx81 ne72
        have hb90 : At W H80 b63 ⟨29, [.int .i64 p, .int .i64 k, u52], 3⟩ := hb82
        refine Dr.fin rfl ?_
        refine nrm_and ?_
        refine AW.seq ?_
        refine AW.draw' [0, 0, 2, 6, 15, 31, 63, 63, 127, 511] mixed (by rfl) ?_
        refine Dr.read 0 _ 26 _ rfl rfl rfl rfl rfl (RV.of (by intro _ _ h; cases h) (.inl rfl) (fun _ xd => HV.lda (cs := [.int .i64 p, .int .i64 k, u52]) rfl va29 (fun j u hu => rdc_ext xd ((at_cells hb90 rfl) j u hu)))) ?_
        refine Dr.read 1 _ 27 _ rfl rfl rfl rfl rfl (RV.of (by intro _ _ h; cases h) (.inl rfl) (fun _ xd => HV.fa fl29_1 rfl)) ?_
        refine Dr.read 2 _ 28 _ rfl rfl rfl rfl rfl (RV.of (by intro _ _ h; cases h) (.inl rfl) (fun _ xd => HV.ld rfl va2 (rdc_ext xd (at_cell_add (j := 1) hb90 rfl)))) ?_
        refine Dr.eff 3 _ _ rfl (by intro d h; cases h; exact ⟨rfl, rfl⟩) rfl rfl rfl (EC.of (by intro _ _ h; cases h) (.inl rfl) (WV.call fn83 rfl (unit_ok (W := W) k (by omega)))) (fun v H' h => .inl (h.1)) ?_
        rintro v91 H92 ⟨hx93, ho94⟩
        have X96 := Ext.trans X83 hx93
        have X97 := Ext.trans X84 hx93
        have X98 := Ext.trans X85 hx93
        have X99 := Ext.trans X86 hx93
        have ho100 := ho88.ext hx93
        have hb101 := hb89.ext hx93
        have hb102 := hb90.ext hx93
        have X103 := Ext.refl H92
        have hr95 : RdK kI W H92 _ v91 (unitL (k : Int).toNat 0) := ho94.rd
        have y104 := hb101.lt
        have y105 := hb102.lt
        have o106 := X96.bd
        have o107 := X97.bd
        have o108 := X98.bd
        have o109 := X99.bd
        have o110 := X103.bd
        refine Dr.eff 4 _ _ rfl (by intro d h; cases h; exact ⟨rfl, rfl⟩) rfl rfl rfl (EC.of (by intro _ _ h; cases h) (.inl rfl) (WV.call fn82 rfl (comb_ok p k ho100 hr95 (K := k.toNat) hF.q hk0 hP1 (by omega) (by rw [partL_len]; omega) (unitL_in (by omega) _ _) (unitL_len _ _)))) (fun v H' h => .inl (h.2)) ?_
        rintro _ H112 ⟨⟨u111, rfl, hv114⟩, hx113⟩
        have X115 := Ext.trans X96 hx113
        have X116 := Ext.trans X97 hx113
        have X117 := Ext.trans X98 hx113
        have X118 := Ext.trans X99 hx113
        have X119 := Ext.trans X103 hx113
        have ho120 := ho100.ext hx113
        have hb121 := hb101.ext hx113
        have hb122 := hb102.ext hx113
        have X123 := Ext.refl H112
        have hr124 := hv114.rd
        refine Dr.read 5 _ 25 _ rfl rfl rfl rfl rfl (RV.of (by intro _ _ h; cases h) (.inl rfl) (fun _ xd => HV.mv rfl)) ?_
        refine Dr.read 6 _ 31 _ rfl rfl rfl rfl rfl (RV.of (by intro _ _ h; cases h) (.inl rfl) (fun _ xd => HV.ex rfl rfl)) ?_
        refine Dr.read 7 _ 32 _ rfl rfl rfl rfl rfl (RV.of (by intro _ _ h; cases h) (.inl rfl) (fun _ xd => HV.ex rfl rfl)) ?_
        refine Dr.read 8 _ 10 _ rfl rfl rfl rfl rfl (RV.of (by intro _ _ h; cases h) (.inl rfl) (fun _ xd => HV.as rfl)) ?_
        refine Dr.read 9 _ 11 _ rfl rfl rfl rfl rfl (RV.of (by intro _ _ h; cases h) (.inl rfl) (fun _ xd => HV.as rfl)) ?_
        refine Dr.fin rfl ?_
        refine nrm_and ?_
        refine AW.seq ?_
        refine AW.rs ?_
        refine AL.val rfl (.inl rfl) (HV.mv rfl) ?_
        refine AL.val rfl (.inl rfl) (HV.not rfl) ?_
        refine AL.nx ?_
        refine AW.cond rfl (fun c125 => ?_) (fun c125 => ?_)
        · -- then
          refine AW.rs ?_
          refine AL.val rfl (.inl rfl) (HV.as rfl) ?_
          refine AL.val rfl (.inl rfl) (HV.as rfl) ?_
          refine AL.nx ?_
          refine AW.ret ?_
          refine ret_and ?_
          refine post_two rfl rfl rfl ?_ (.inr rfl)
          have hb : (openX p k o l g).2 = false := bnot_t c125; exact ⟨by unfold rbV rbC; rw [if_neg (fun q => by have q2 := q.2.1; rw [hb] at q2; cases q2), if_pos (show withC n o p k l g h = 0 by omega), if_neg (fun q => by rw [hb] at q; cases q)], X115⟩
        · -- else
          refine AW.skip ?_
          refine nrm_and ?_
          refine AW.seq ?_
          refine AW.rs ?_
          have hox : (openX p k o l g).2 = true := bnot_f c125
          refine AL.val rfl (.inl rfl) (HV.lda (cs := [.int .i64 p, .int .i64 k, u52]) rfl va29 (at_cells hb122 rfl)) ?_
          refine AL.val rfl (.inl rfl) (HV.mv rfl) ?_
          have y126 := hb121.lt
          have y127 := hb122.lt
          have o128 := X115.bd
          have o129 := X116.bd
          have o130 := X117.bd
          have o131 := X118.bd
          have o132 := X119.bd
          have o133 := X123.bd
          refine AL.w rfl (.inl rfl) (WV.call fn75 rfl (implSol_ok p k ho120 (hrh.ext X115) hF.q hk0 hP1 (by omega) (by rw [partL_len]; omega) hh1 (by rw [partL_len]; exact hh2))) ?_
          rintro _ H135 ⟨⟨v134, rfl, hv137⟩, hx136⟩
          have X138 := Ext.trans X115 hx136
          have X139 := Ext.trans X116 hx136
          have X140 := Ext.trans X117 hx136
          have X141 := Ext.trans X118 hx136
          have X142 := Ext.trans X119 hx136
          have X143 := Ext.trans X123 hx136
          have ho144 := ho120.ext hx136
          have hb145 := hb121.ext hx136
          have hb146 := hb122.ext hx136
          have X147 := Ext.refl H135
          have hr148 := hv137.rd
          refine AL.val rfl (.inl rfl) (HV.mv rfl) ?_
          refine AL.val rfl (.inl rfl) (HV.ex rfl rfl) ?_
          refine AL.val rfl (.inl rfl) (HV.ex rfl rfl) ?_
          refine AL.val rfl (.inl rfl) (HV.as rfl) ?_
          refine AL.val rfl (.inl rfl) (HV.as rfl) ?_
          refine AL.nx ?_
          refine AW.rs ?_
          refine AL.val rfl (.inl rfl) (HV.mv rfl) ?_
          refine AL.val rfl (.inl rfl) (HV.not rfl) ?_
          refine AL.nx ?_
          refine AW.cond rfl (fun c149 => ?_) (fun c149 => ?_)
          · -- then
            refine AW.rs ?_
            refine AL.val rfl (.inl rfl) (HV.as rfl) ?_
            refine AL.val rfl (.inl rfl) (HV.as rfl) ?_
            refine AL.nx ?_
            refine AW.ret ?_
            refine ret_and ?_
            refine post_two rfl rfl rfl ?_ (.inr rfl)
            have hcb : conB n o p k l g h = (solM p k.toNat (besL (partL l (idxG o g)) [h] (partL l (idxG o g)).length)).2 := (by unfold conB; rw [if_pos (show withC n o p k l g h = 0 by omega)]); have hb := hcb.trans (bnot_t c149); exact ⟨by unfold rbV rbC; rw [if_neg (fun q => by have q2 := q.2.2; rw [hb] at q2; cases q2), if_pos (show withC n o p k l g h = 0 by omega), if_pos hox, if_neg (fun q => by rw [hb] at q; cases q)], X138⟩
          · -- else
            refine AW.skip ?_
            refine nrm_and ?_
            refine AW.rs ?_
            have hos : (solM p k.toNat (besL (partL l (idxG o g)) [h] (partL l (idxG o g)).length)).2 = true := bnot_f c149
            refine AL.val rfl (.inl rfl) (HV.fa fl29_0 rfl) ?_
            refine AL.val rfl (.inl rfl) (HV.ld rfl va2 (at_cell hb146 rfl)) ?_
            refine AL.val rfl (.inl rfl) (HV.mv rfl) ?_
            refine AL.val rfl (.inl rfl) (HV.mv rfl) ?_
            refine AL.w rfl (.inl rfl) (WV.call fn89 rfl (dot_ok (hr124.ext X143) (hrh.ext X138) hp hO1 hh1 ⟨(hO2 hox).trans hh2.symm, Nat.le_trans hO3 (by decide)⟩)) ?_
            rintro _ H150 ⟨rfl, hx151⟩
            have X152 := Ext.trans X138 hx151
            have X153 := Ext.trans X139 hx151
            have X154 := Ext.trans X140 hx151
            have X155 := Ext.trans X141 hx151
            have X156 := Ext.trans X142 hx151
            have X157 := Ext.trans X143 hx151
            have X158 := Ext.trans X147 hx151
            have ho159 := ho144.ext hx151
            have hb160 := hb145.ext hx151
            have hb161 := hb146.ext hx151
            refine AL.val rfl (.inl rfl) (HV.as rfl) ?_
            refine AL.val rfl (.inl rfl) (HV.as rfl) ?_
            refine AL.nx ?_
            refine AW.ret ?_
            refine post_two rfl rfl rfl ?_ (.inr rfl)
            have hcb : conB n o p k l g h = (solM p k.toNat (besL (partL l (idxG o g)) [h] (partL l (idxG o g)).length)).2 := (by unfold conB; rw [if_pos (show withC n o p k l g h = 0 by omega)]); have hb := hcb.trans hos; exact ⟨by unfold rbV rbC; rw [if_pos ⟨(show withC n o p k l g h = 0 by omega), hox, hb⟩, if_pos (show withC n o p k l g h = 0 by omega), if_pos hox, if_pos hb]; (try rfl), X152⟩
      · -- 4 first
        rintro _ H163 ⟨b162, rfl, hx164, hn165, hb166⟩
        have o167 := Nat.le_trans X28.bd hn165
        have o168 := Nat.le_trans X29.bd hn165
        have ne169 : b5 ≠ b162 := by have := hb30.lt; omega
        have X170 := Ext.trans X28 hx164
        have X171 := Ext.trans X29 hx164
        have hb172 := hb30.ext hx164
        have X173 := Ext.refl H163
        have y174 := hb172.lt
        have y175 := hb166.lt
        have o176 := X170.bd
        have o177 := X171.bd
        have o178 := X173.bd
        refine Dr.eff 3 _ _ rfl (by intro d h; cases h; exact ⟨rfl, rfl⟩) rfl rfl rfl (EC.of (by intro _ _ h; cases h) (.inl rfl) (WV.call fn73 rfl (held_ok n p k (ho.ext X170) (hr.ext X170) hok hg))) (fun v H' h => .inl (h.2)) ?_
        rintro _ H180 ⟨⟨u179, rfl, ho182⟩, hx181⟩
        have X185 := Ext.trans X170 hx181
        have X186 := Ext.trans X171 hx181
        have X187 := Ext.trans X173 hx181
        have hb188 := hb172.ext hx181
        have hb189 := hb166.ext hx181
        have X190 := Ext.refl H180
        have hr183 : RdK (kR kI) W H180 (fun b => H163.bd ≤ b ∧ b < H180.bd) u179 (partL l (idxG o g)) := (rd_ofO ho182.rd).okk (fun b hb hlt => ⟨hb, hlt⟩)
        refine Dr.eff 5 _ _ rfl (by intro d h; cases h) rfl rfl rfl (EC.of (by intro _ _ h; cases h) (.inl rfl) (WV.st rfl rfl va29 rfl hb189 (Nat.le_of_ble_eq_true rfl) (one_cons rfl (one_cons rfl (one_cons (sl_one1 hr183.isSl) one_nil))))) (fun v H' h => .inr (.inl rfl)) ?_
        rintro _ H191 ⟨hx192, hb193⟩
        have X194 := Ext.thru X185 hx192 (fun z_ hz_ => by rw [hz_]; exact o167)
        have X195 := Ext.thru X186 hx192 (fun z_ hz_ => by rw [hz_]; exact o168)
        have ho198 := hr183.but hx192 (fun b hb _ e => by have h1 : H163.bd ≤ b ∧ b < H180.bd := hb; have h2 : b = b162 := e; omega) (fun z_ hz_ => by rw [hz_]; exact hb189.w)
        have hb199 := hb188.but hx192 ne169
        have hb200 : At W H191 b162 ⟨29, [.int .i64 p, .int .i64 k, u179], 3⟩ := hb193
        refine Dr.fin rfl ?_
        refine nrm_and ?_
        refine AW.seq ?_
        refine AW.draw' [0, 0, 2, 6, 15, 31, 63, 63, 127, 511] mixed (by rfl) ?_
        refine Dr.read 0 _ 26 _ rfl rfl rfl rfl rfl (RV.of (by intro _ _ h; cases h) (.inl rfl) (fun _ xd => HV.lda (cs := [.int .i64 p, .int .i64 k, u179]) rfl va29 (fun j u hu => rdc_ext xd ((at_cells hb200 rfl) j u hu)))) ?_
        refine Dr.read 1 _ 27 _ rfl rfl rfl rfl rfl (RV.of (by intro _ _ h; cases h) (.inl rfl) (fun _ xd => HV.fa fl29_1 rfl)) ?_
        refine Dr.read 2 _ 28 _ rfl rfl rfl rfl rfl (RV.of (by intro _ _ h; cases h) (.inl rfl) (fun _ xd => HV.ld rfl va2 (rdc_ext xd (at_cell_add (j := 1) hb200 rfl)))) ?_
        refine Dr.eff 3 _ _ rfl (by intro d h; cases h; exact ⟨rfl, rfl⟩) rfl rfl rfl (EC.of (by intro _ _ h; cases h) (.inl rfl) (WV.call fn83 rfl (unit_ok (W := W) k (by omega)))) (fun v H' h => .inl (h.1)) ?_
        rintro v201 H202 ⟨hx203, ho204⟩
        have X206 := Ext.trans X194 hx203
        have X207 := Ext.trans X195 hx203
        have ho208 := ho198.ext hx203
        have hb209 := hb199.ext hx203
        have hb210 := hb200.ext hx203
        have X211 := Ext.refl H202
        have hr205 : RdK kI W H202 _ v201 (unitL (k : Int).toNat 0) := ho204.rd
        have y212 := hb209.lt
        have y213 := hb210.lt
        have o214 := X206.bd
        have o215 := X207.bd
        have o216 := X211.bd
        refine Dr.eff 4 _ _ rfl (by intro d h; cases h; exact ⟨rfl, rfl⟩) rfl rfl rfl (EC.of (by intro _ _ h; cases h) (.inl rfl) (WV.call fn82 rfl (comb_ok p k ho208 hr205 (K := k.toNat) hF.q hk0 hP1 (by omega) (by rw [partL_len]; omega) (unitL_in (by omega) _ _) (unitL_len _ _)))) (fun v H' h => .inl (h.2)) ?_
        rintro _ H218 ⟨⟨u217, rfl, hv220⟩, hx219⟩
        have X221 := Ext.trans X206 hx219
        have X222 := Ext.trans X207 hx219
        have X223 := Ext.trans X211 hx219
        have ho224 := ho208.ext hx219
        have hb225 := hb209.ext hx219
        have hb226 := hb210.ext hx219
        have X227 := Ext.refl H218
        have hr228 := hv220.rd
        refine Dr.read 5 _ 25 _ rfl rfl rfl rfl rfl (RV.of (by intro _ _ h; cases h) (.inl rfl) (fun _ xd => HV.mv rfl)) ?_
        refine Dr.read 6 _ 31 _ rfl rfl rfl rfl rfl (RV.of (by intro _ _ h; cases h) (.inl rfl) (fun _ xd => HV.ex rfl rfl)) ?_
        refine Dr.read 7 _ 32 _ rfl rfl rfl rfl rfl (RV.of (by intro _ _ h; cases h) (.inl rfl) (fun _ xd => HV.ex rfl rfl)) ?_
        refine Dr.read 8 _ 10 _ rfl rfl rfl rfl rfl (RV.of (by intro _ _ h; cases h) (.inl rfl) (fun _ xd => HV.as rfl)) ?_
        refine Dr.read 9 _ 11 _ rfl rfl rfl rfl rfl (RV.of (by intro _ _ h; cases h) (.inl rfl) (fun _ xd => HV.as rfl)) ?_
        refine Dr.fin rfl ?_
        refine nrm_and ?_
        refine AW.seq ?_
        refine AW.rs ?_
        refine AL.val rfl (.inl rfl) (HV.mv rfl) ?_
        refine AL.val rfl (.inl rfl) (HV.not rfl) ?_
        refine AL.nx ?_
        refine AW.cond rfl (fun c229 => ?_) (fun c229 => ?_)
        · -- then
          refine AW.rs ?_
          refine AL.val rfl (.inl rfl) (HV.as rfl) ?_
          refine AL.val rfl (.inl rfl) (HV.as rfl) ?_
          refine AL.nx ?_
          refine AW.ret ?_
          refine ret_and ?_
          refine post_two rfl rfl rfl ?_ (.inr rfl)
          have hb : (openX p k o l g).2 = false := bnot_t c229; exact ⟨by unfold rbV rbC; rw [if_neg (fun q => by have q2 := q.2.1; rw [hb] at q2; cases q2), if_pos (show withC n o p k l g h = 0 by omega), if_neg (fun q => by rw [hb] at q; cases q)], X221⟩
        · -- else
          refine AW.skip ?_
          refine nrm_and ?_
          refine AW.seq ?_
          refine AW.rs ?_
          have hox : (openX p k o l g).2 = true := bnot_f c229
          refine AL.val rfl (.inl rfl) (HV.lda (cs := [.int .i64 p, .int .i64 k, u179]) rfl va29 (at_cells hb226 rfl)) ?_
          refine AL.val rfl (.inl rfl) (HV.mv rfl) ?_
          have y230 := hb225.lt
          have y231 := hb226.lt
          have o232 := X221.bd
          have o233 := X222.bd
          have o234 := X223.bd
          have o235 := X227.bd
          refine AL.w rfl (.inl rfl) (WV.call fn75 rfl (implSol_ok p k ho224 (hrh.ext X221) hF.q hk0 hP1 (by omega) (by rw [partL_len]; omega) hh1 (by rw [partL_len]; exact hh2))) ?_
          rintro _ H237 ⟨⟨v236, rfl, hv239⟩, hx238⟩
          have X240 := Ext.trans X221 hx238
          have X241 := Ext.trans X222 hx238
          have X242 := Ext.trans X223 hx238
          have X243 := Ext.trans X227 hx238
          have ho244 := ho224.ext hx238
          have hb245 := hb225.ext hx238
          have hb246 := hb226.ext hx238
          have X247 := Ext.refl H237
          have hr248 := hv239.rd
          refine AL.val rfl (.inl rfl) (HV.mv rfl) ?_
          refine AL.val rfl (.inl rfl) (HV.ex rfl rfl) ?_
          refine AL.val rfl (.inl rfl) (HV.ex rfl rfl) ?_
          refine AL.val rfl (.inl rfl) (HV.as rfl) ?_
          refine AL.val rfl (.inl rfl) (HV.as rfl) ?_
          refine AL.nx ?_
          refine AW.rs ?_
          refine AL.val rfl (.inl rfl) (HV.mv rfl) ?_
          refine AL.val rfl (.inl rfl) (HV.not rfl) ?_
          refine AL.nx ?_
          refine AW.cond rfl (fun c249 => ?_) (fun c249 => ?_)
          · -- then
            refine AW.rs ?_
            refine AL.val rfl (.inl rfl) (HV.as rfl) ?_
            refine AL.val rfl (.inl rfl) (HV.as rfl) ?_
            refine AL.nx ?_
            refine AW.ret ?_
            refine ret_and ?_
            refine post_two rfl rfl rfl ?_ (.inr rfl)
            have hcb : conB n o p k l g h = (solM p k.toNat (besL (partL l (idxG o g)) [h] (partL l (idxG o g)).length)).2 := (by unfold conB; rw [if_pos (show withC n o p k l g h = 0 by omega)]); have hb := hcb.trans (bnot_t c249); exact ⟨by unfold rbV rbC; rw [if_neg (fun q => by have q2 := q.2.2; rw [hb] at q2; cases q2), if_pos (show withC n o p k l g h = 0 by omega), if_pos hox, if_neg (fun q => by rw [hb] at q; cases q)], X240⟩
          · -- else
            refine AW.skip ?_
            refine nrm_and ?_
            refine AW.rs ?_
            have hos : (solM p k.toNat (besL (partL l (idxG o g)) [h] (partL l (idxG o g)).length)).2 = true := bnot_f c249
            refine AL.val rfl (.inl rfl) (HV.fa fl29_0 rfl) ?_
            refine AL.val rfl (.inl rfl) (HV.ld rfl va2 (at_cell hb246 rfl)) ?_
            refine AL.val rfl (.inl rfl) (HV.mv rfl) ?_
            refine AL.val rfl (.inl rfl) (HV.mv rfl) ?_
            refine AL.w rfl (.inl rfl) (WV.call fn89 rfl (dot_ok (hr228.ext X243) (hrh.ext X240) hp hO1 hh1 ⟨(hO2 hox).trans hh2.symm, Nat.le_trans hO3 (by decide)⟩)) ?_
            rintro _ H250 ⟨rfl, hx251⟩
            have X252 := Ext.trans X240 hx251
            have X253 := Ext.trans X241 hx251
            have X254 := Ext.trans X242 hx251
            have X255 := Ext.trans X243 hx251
            have X256 := Ext.trans X247 hx251
            have ho257 := ho244.ext hx251
            have hb258 := hb245.ext hx251
            have hb259 := hb246.ext hx251
            refine AL.val rfl (.inl rfl) (HV.as rfl) ?_
            refine AL.val rfl (.inl rfl) (HV.as rfl) ?_
            refine AL.nx ?_
            refine AW.ret ?_
            refine post_two rfl rfl rfl ?_ (.inr rfl)
            have hcb : conB n o p k l g h = (solM p k.toNat (besL (partL l (idxG o g)) [h] (partL l (idxG o g)).length)).2 := (by unfold conB; rw [if_pos (show withC n o p k l g h = 0 by omega)]); have hb := hcb.trans hos; exact ⟨by unfold rbV rbC; rw [if_pos ⟨(show withC n o p k l g h = 0 by omega), hox, hb⟩, if_pos (show withC n o p k l g h = 0 by omega), if_pos hox, if_pos hb]; (try rfl), X252⟩
    · -- 4 first
      rintro _ H261 ⟨b260, rfl, hx262, hn263, hb264⟩
      have o265 := Nat.le_trans X15.bd hn263
      have o266 := Nat.le_trans X16.bd hn263
      have ne267 : b5 ≠ b260 := by have := hb17.lt; omega
      have X268 := Ext.trans X15 hx262
      have X269 := Ext.trans X16 hx262
      have hb270 := hb17.ext hx262
      have X271 := Ext.refl H261
      refine Dr.eff 2 _ _ rfl (by intro d h; cases h; exact ⟨rfl, rfl⟩) rfl rfl rfl (EC.of (by intro _ _ h; cases h) (.inl rfl) (WV.call fn74 rfl (crowdOf_ok (hrg.ext X268) (by skip; exact ris_low hF.hn hg)))) (fun v H' h => .inl (h.2)) ?_
      rintro _ H272 ⟨rfl, hx273⟩
      have X274 := Ext.trans X268 hx273
      have X275 := Ext.trans X269 hx273
      have X276 := Ext.trans X271 hx273
      have hb277 := hb270.ext hx273
      have hb278 := hb264.ext hx273
      have X279 := Ext.refl H272
      have y280 := hb277.lt
      have y281 := hb278.lt
      have o282 := X274.bd
      have o283 := X275.bd
      have o284 := X276.bd
      have o285 := X279.bd
      refine Dr.eff 3 _ _ rfl (by intro d h; cases h; exact ⟨rfl, rfl⟩) rfl rfl rfl (EC.of (by intro _ _ h; cases h) (.inl rfl) (WV.call fn73 rfl (held_ok n p k (ho.ext X274) (hr.ext X274) hok hg))) (fun v H' h => .inl (h.2)) ?_
      rintro _ H287 ⟨⟨u286, rfl, ho289⟩, hx288⟩
      have X292 := Ext.trans X274 hx288
      have X293 := Ext.trans X275 hx288
      have X294 := Ext.trans X276 hx288
      have X295 := Ext.trans X279 hx288
      have hb296 := hb277.ext hx288
      have hb297 := hb278.ext hx288
      have X298 := Ext.refl H287
      have hr290 : RdK (kR kI) W H287 (fun b => H272.bd ≤ b ∧ b < H287.bd) u286 (partL l (idxG o g)) := (rd_ofO ho289.rd).okk (fun b hb hlt => ⟨hb, hlt⟩)
      refine Dr.eff 5 _ _ rfl (by intro d h; cases h) rfl rfl rfl (EC.of (by intro _ _ h; cases h) (.inl rfl) (WV.st rfl rfl va29 rfl hb297 (Nat.le_of_ble_eq_true rfl) (one_cons rfl (one_cons rfl (one_cons (sl_one1 hr290.isSl) one_nil))))) (fun v H' h => .inr (.inl rfl)) ?_
      rintro _ H299 ⟨hx300, hb301⟩
      have X302 := Ext.thru X292 hx300 (fun z_ hz_ => by rw [hz_]; exact o265)
      have X303 := Ext.thru X293 hx300 (fun z_ hz_ => by rw [hz_]; exact o266)
      have ho307 := hr290.but hx300 (fun b hb _ e => by have h1 : H272.bd ≤ b ∧ b < H287.bd := hb; have h2 : b = b260 := e; omega) (fun z_ hz_ => by rw [hz_]; exact hb297.w)
      have hb308 := hb296.but hx300 ne267
      have hb309 : At W H299 b260 ⟨29, [.int .i64 p, .int .i64 k, u286], 3⟩ := hb301
      refine Dr.fin rfl ?_
      refine nrm_and ?_
      refine AW.seq ?_
      refine AW.draw' [0, 0, 2, 6, 15, 31, 63, 63, 127, 511] mixed (by rfl) ?_
      refine Dr.read 0 _ 26 _ rfl rfl rfl rfl rfl (RV.of (by intro _ _ h; cases h) (.inl rfl) (fun _ xd => HV.lda (cs := [.int .i64 p, .int .i64 k, u286]) rfl va29 (fun j u hu => rdc_ext xd ((at_cells hb309 rfl) j u hu)))) ?_
      refine Dr.read 1 _ 27 _ rfl rfl rfl rfl rfl (RV.of (by intro _ _ h; cases h) (.inl rfl) (fun _ xd => HV.fa fl29_1 rfl)) ?_
      refine Dr.read 2 _ 28 _ rfl rfl rfl rfl rfl (RV.of (by intro _ _ h; cases h) (.inl rfl) (fun _ xd => HV.ld rfl va2 (rdc_ext xd (at_cell_add (j := 1) hb309 rfl)))) ?_
      refine Dr.eff 3 _ _ rfl (by intro d h; cases h; exact ⟨rfl, rfl⟩) rfl rfl rfl (EC.of (by intro _ _ h; cases h) (.inl rfl) (WV.call fn83 rfl (unit_ok (W := W) k (by omega)))) (fun v H' h => .inl (h.1)) ?_
      rintro v310 H311 ⟨hx312, ho313⟩
      have X315 := Ext.trans X302 hx312
      have X316 := Ext.trans X303 hx312
      have ho317 := ho307.ext hx312
      have hb318 := hb308.ext hx312
      have hb319 := hb309.ext hx312
      have X320 := Ext.refl H311
      have hr314 : RdK kI W H311 _ v310 (unitL (k : Int).toNat 0) := ho313.rd
      have y321 := hb318.lt
      have y322 := hb319.lt
      have o323 := X315.bd
      have o324 := X316.bd
      have o325 := X320.bd
      refine Dr.eff 4 _ _ rfl (by intro d h; cases h; exact ⟨rfl, rfl⟩) rfl rfl rfl (EC.of (by intro _ _ h; cases h) (.inl rfl) (WV.call fn82 rfl (comb_ok p k ho317 hr314 (K := k.toNat) hF.q hk0 hP1 (by omega) (by rw [partL_len]; omega) (unitL_in (by omega) _ _) (unitL_len _ _)))) (fun v H' h => .inl (h.2)) ?_
      rintro _ H327 ⟨⟨u326, rfl, hv329⟩, hx328⟩
      have X330 := Ext.trans X315 hx328
      have X331 := Ext.trans X316 hx328
      have X332 := Ext.trans X320 hx328
      have ho333 := ho317.ext hx328
      have hb334 := hb318.ext hx328
      have hb335 := hb319.ext hx328
      have X336 := Ext.refl H327
      have hr337 := hv329.rd
      refine Dr.read 5 _ 25 _ rfl rfl rfl rfl rfl (RV.of (by intro _ _ h; cases h) (.inl rfl) (fun _ xd => HV.mv rfl)) ?_
      refine Dr.read 6 _ 31 _ rfl rfl rfl rfl rfl (RV.of (by intro _ _ h; cases h) (.inl rfl) (fun _ xd => HV.ex rfl rfl)) ?_
      refine Dr.read 7 _ 32 _ rfl rfl rfl rfl rfl (RV.of (by intro _ _ h; cases h) (.inl rfl) (fun _ xd => HV.ex rfl rfl)) ?_
      refine Dr.read 8 _ 10 _ rfl rfl rfl rfl rfl (RV.of (by intro _ _ h; cases h) (.inl rfl) (fun _ xd => HV.as rfl)) ?_
      refine Dr.read 9 _ 11 _ rfl rfl rfl rfl rfl (RV.of (by intro _ _ h; cases h) (.inl rfl) (fun _ xd => HV.as rfl)) ?_
      refine Dr.fin rfl ?_
      refine nrm_and ?_
      refine AW.seq ?_
      refine AW.rs ?_
      refine AL.val rfl (.inl rfl) (HV.mv rfl) ?_
      refine AL.val rfl (.inl rfl) (HV.not rfl) ?_
      refine AL.nx ?_
      refine AW.cond rfl (fun c338 => ?_) (fun c338 => ?_)
      · -- then
        refine AW.rs ?_
        refine AL.val rfl (.inl rfl) (HV.as rfl) ?_
        refine AL.val rfl (.inl rfl) (HV.as rfl) ?_
        refine AL.nx ?_
        refine AW.ret ?_
        refine ret_and ?_
        refine post_two rfl rfl rfl ?_ (.inr rfl)
        have hb : (openX p k o l g).2 = false := bnot_t c338; exact ⟨by unfold rbV rbC; rw [if_neg (fun q => by have q2 := q.2.1; rw [hb] at q2; cases q2), if_pos (show withC n o p k l g h = 0 by omega), if_neg (fun q => by rw [hb] at q; cases q)], X330⟩
      · -- else
        refine AW.skip ?_
        refine nrm_and ?_
        refine AW.seq ?_
        refine AW.rs ?_
        have hox : (openX p k o l g).2 = true := bnot_f c338
        refine AL.val rfl (.inl rfl) (HV.lda (cs := [.int .i64 p, .int .i64 k, u286]) rfl va29 (at_cells hb335 rfl)) ?_
        refine AL.val rfl (.inl rfl) (HV.mv rfl) ?_
        have y339 := hb334.lt
        have y340 := hb335.lt
        have o341 := X330.bd
        have o342 := X331.bd
        have o343 := X332.bd
        have o344 := X336.bd
        refine AL.w rfl (.inl rfl) (WV.call fn75 rfl (implSol_ok p k ho333 (hrh.ext X330) hF.q hk0 hP1 (by omega) (by rw [partL_len]; omega) hh1 (by rw [partL_len]; exact hh2))) ?_
        rintro _ H346 ⟨⟨v345, rfl, hv348⟩, hx347⟩
        have X349 := Ext.trans X330 hx347
        have X350 := Ext.trans X331 hx347
        have X351 := Ext.trans X332 hx347
        have X352 := Ext.trans X336 hx347
        have ho353 := ho333.ext hx347
        have hb354 := hb334.ext hx347
        have hb355 := hb335.ext hx347
        have X356 := Ext.refl H346
        have hr357 := hv348.rd
        refine AL.val rfl (.inl rfl) (HV.mv rfl) ?_
        refine AL.val rfl (.inl rfl) (HV.ex rfl rfl) ?_
        refine AL.val rfl (.inl rfl) (HV.ex rfl rfl) ?_
        refine AL.val rfl (.inl rfl) (HV.as rfl) ?_
        refine AL.val rfl (.inl rfl) (HV.as rfl) ?_
        refine AL.nx ?_
        refine AW.rs ?_
        refine AL.val rfl (.inl rfl) (HV.mv rfl) ?_
        refine AL.val rfl (.inl rfl) (HV.not rfl) ?_
        refine AL.nx ?_
        refine AW.cond rfl (fun c358 => ?_) (fun c358 => ?_)
        · -- then
          refine AW.rs ?_
          refine AL.val rfl (.inl rfl) (HV.as rfl) ?_
          refine AL.val rfl (.inl rfl) (HV.as rfl) ?_
          refine AL.nx ?_
          refine AW.ret ?_
          refine ret_and ?_
          refine post_two rfl rfl rfl ?_ (.inr rfl)
          have hcb : conB n o p k l g h = (solM p k.toNat (besL (partL l (idxG o g)) [h] (partL l (idxG o g)).length)).2 := (by unfold conB; rw [if_pos (show withC n o p k l g h = 0 by omega)]); have hb := hcb.trans (bnot_t c358); exact ⟨by unfold rbV rbC; rw [if_neg (fun q => by have q2 := q.2.2; rw [hb] at q2; cases q2), if_pos (show withC n o p k l g h = 0 by omega), if_pos hox, if_neg (fun q => by rw [hb] at q; cases q)], X349⟩
        · -- else
          refine AW.skip ?_
          refine nrm_and ?_
          refine AW.rs ?_
          have hos : (solM p k.toNat (besL (partL l (idxG o g)) [h] (partL l (idxG o g)).length)).2 = true := bnot_f c358
          refine AL.val rfl (.inl rfl) (HV.fa fl29_0 rfl) ?_
          refine AL.val rfl (.inl rfl) (HV.ld rfl va2 (at_cell hb355 rfl)) ?_
          refine AL.val rfl (.inl rfl) (HV.mv rfl) ?_
          refine AL.val rfl (.inl rfl) (HV.mv rfl) ?_
          refine AL.w rfl (.inl rfl) (WV.call fn89 rfl (dot_ok (hr337.ext X352) (hrh.ext X349) hp hO1 hh1 ⟨(hO2 hox).trans hh2.symm, Nat.le_trans hO3 (by decide)⟩)) ?_
          rintro _ H359 ⟨rfl, hx360⟩
          have X361 := Ext.trans X349 hx360
          have X362 := Ext.trans X350 hx360
          have X363 := Ext.trans X351 hx360
          have X364 := Ext.trans X352 hx360
          have X365 := Ext.trans X356 hx360
          have ho366 := ho353.ext hx360
          have hb367 := hb354.ext hx360
          have hb368 := hb355.ext hx360
          refine AL.val rfl (.inl rfl) (HV.as rfl) ?_
          refine AL.val rfl (.inl rfl) (HV.as rfl) ?_
          refine AL.nx ?_
          refine AW.ret ?_
          refine post_two rfl rfl rfl ?_ (.inr rfl)
          have hcb : conB n o p k l g h = (solM p k.toNat (besL (partL l (idxG o g)) [h] (partL l (idxG o g)).length)).2 := (by unfold conB; rw [if_pos (show withC n o p k l g h = 0 by omega)]); have hb := hcb.trans hos; exact ⟨by unfold rbV rbC; rw [if_pos ⟨(show withC n o p k l g h = 0 by omega), hox, hb⟩, if_pos (show withC n o p k l g h = 0 by omega), if_pos hox, if_pos hb]; (try rfl), X361⟩

set_option maxRecDepth 100000 in
theorem law_Rebuild {vo v : Value} {o : List Int} {l : List (List Int)} {oko ok : Nat → Prop} (n p k : Int) (ho : RdK kI W H oko vo o) (hr : RdK (kR kI) W H ok v l) {vg : Value} {g : List Int} {okg : Nat → Prop} (hrg : RdK kI W H okg vg g) {vh : Value} {h : List Int} {okh : Nat → Prop} (hrh : RdK kI W H okh vh h) : ACalls Try.prog W 8 #[.agg #[.int .i64 n, vo, .int .i64 p, .int .i64 k, v], vg, vh] H (fun r H' => r = .bool true ∧ Ext H H') := by
  refine ACalls.of (args := [.agg #[.int .i64 n, vo, .int .i64 p, .int .i64 k, v], vg, vh]) Try.func8 rfl rfl ?_
  have X0 := Ext.refl H
  have hm1 := ho.max
  have hm2 := hr.max
  have hm3 := hrg.max
  have hm4 := hrh.max
  refine AW.rs ?_
  refine AL.w rfl (.inl rfl) (WV.bx rfl rfl) ?_
  rintro _ H6 ⟨b5, rfl, hx7, hn8, hb9⟩
  have o10 := Nat.le_trans X0.bd hn8
  have X11 := Ext.trans X0 hx7
  have X12 := Ext.refl H6
  refine AL.val rfl (.inl rfl) (HV.as rfl) ?_
  refine AL.nx ?_
  refine AW.seq ?_
  refine AW.rs ?_
  refine AL.val rfl (.inl rfl) (HV.mv rfl) ?_
  refine AL.val rfl (.inl rfl) (HV.len Try.underlying22 rfl hrg.isSl) ?_
  refine AL.val rfl (.inl rfl) (HV.gti rfl rfl) ?_
  refine AL.nx ?_
  refine AW.ifd rfl (fun c13 => ?_) (fun c13 => ?_)
  · -- then
    refine AW.rs ?_
    refine AL.val rfl (.inl rfl) (HV.as rfl) ?_
    refine AL.nx ?_
    refine AW.ret ?_
    refine ret_and ?_
    refine post_one rfl rfl ?_ (.inr rfl)
    exact ⟨rfl, X11⟩
  · -- else
    refine AW.skip ?_
    refine nrm_and ?_
    refine AW.seq ?_
    refine AW.rs ?_
    refine AL.val rfl (.inl rfl) (HV.mv rfl) ?_
    refine AL.val rfl (.inl rfl) (HV.len Try.underlying22 rfl hrh.isSl) ?_
    refine AL.val rfl (.inl rfl) (HV.gti rfl rfl) ?_
    refine AL.nx ?_
    refine AW.ifd rfl (fun c14 => ?_) (fun c14 => ?_)
    · -- then
      refine AW.rs ?_
      refine AL.val rfl (.inl rfl) (HV.as rfl) ?_
      refine AL.nx ?_
      refine AW.ret ?_
      refine ret_and ?_
      refine post_one rfl rfl ?_ (.inr rfl)
      exact ⟨rfl, X11⟩
    · -- else
      refine AW.skip ?_
      refine nrm_and ?_
      refine AW.rs ?_
      refine AL.val rfl (.inl rfl) (HV.as rfl) ?_
      refine AL.nx ?_
      refine AW.rs ?_
      refine AL.val rfl (.inl rfl) (HV.lda (cs := [.int .i64 n, vo, .int .i64 p, .int .i64 k, v]) rfl va27 (at_cells hb9 rfl)) ?_
      refine AL.val rfl (.inl rfl) (HV.mv rfl) ?_
      refine AL.w rfl (.inl rfl) (WV.call fn13 rfl (szSc_ok n p k (ho.ext X11) (hr.ext X11) 1048576 (by omega))) ?_
      rintro _ H15 ⟨⟨q17, rfl, ha18, hb19, he20⟩, hx16⟩
      have X21 := Ext.trans X11 hx16
      have X22 := Ext.trans X12 hx16
      have hb23 := hb9.ext hx16
      refine AL.val rfl (.inl rfl) (HV.as rfl) ?_
      refine AL.nx ?_
      refine AW.seq ?_
      refine AW.rs ?_
      refine AL.val rfl (.inl rfl) (HV.mv rfl) ?_
      refine AL.val rfl (.inl rfl) (HV.lti rfl rfl) ?_
      refine AL.nx ?_
      refine AW.ifd rfl (fun c24 => ?_) (fun c24 => ?_)
      · -- then
        refine AW.rs ?_
        refine AL.val rfl (.inl rfl) (HV.as rfl) ?_
        refine AL.nx ?_
        refine AW.ret ?_
        refine ret_and ?_
        refine post_one rfl rfl ?_ (.inr rfl)
        exact ⟨rfl, X21⟩
      · -- else
        refine AW.skip ?_
        refine nrm_and ?_
        refine AW.rs ?_
        refine AL.val rfl (.inl rfl) (HV.lda (cs := [.int .i64 n, vo, .int .i64 p, .int .i64 k, v]) rfl va27 (at_cells hb23 rfl)) ?_
        refine AL.w rfl (.inl rfl) (WV.call fn15 rfl (toSc_ok n p k (ho.ext X21) (hr.ext X21) (he20 (by omega)).1 (he20 (by omega)).2)) ?_
        rintro _ H28 ⟨⟨u25, v26, B27, rfl, ho30, ho31⟩, hx29⟩
        have X34 := Ext.trans X21 hx29
        have X35 := Ext.trans X22 hx29
        have hb36 := hb23.ext hx29
        have X37 := Ext.refl H28
        have hr32 := ho30.rd
        have hr33 := rd_ofO ho31.rd
        refine AL.val rfl (.inl rfl) (HV.mv rfl) ?_
        refine AL.w rfl (.inl rfl) (WV.call fn21 rfl (toS_ok (hrg.ext X34) (by omega))) ?_
        rintro v38 H39 ⟨hx40, ho41⟩
        have X43 := Ext.trans X34 hx40
        have X44 := Ext.trans X35 hx40
        have X45 := Ext.trans X37 hx40
        have hb46 := hb36.ext hx40
        have X47 := Ext.refl H39
        have hr42 : RdK kI W H39 _ v38 g := ho41.rd
        refine AL.val rfl (.inl rfl) (HV.mv rfl) ?_
        refine AL.w rfl (.inl rfl) (WV.call fn21 rfl (toS_ok (hrh.ext X43) (by omega))) ?_
        rintro v48 H49 ⟨hx50, ho51⟩
        have X53 := Ext.trans X43 hx50
        have X54 := Ext.trans X44 hx50
        have X55 := Ext.trans X45 hx50
        have X56 := Ext.trans X47 hx50
        have hb57 := hb46.ext hx50
        have X58 := Ext.refl H49
        have hr52 : RdK kI W H49 _ v48 h := ho51.rd
        refine AL.w rfl (.inl rfl) (WV.call fn32 rfl (specRB_ok n p k (hr32.ext X55) (hr33.ext X55) (hr42.ext X56) hr52)) ?_
        rintro _ H59 ⟨rfl, hx60⟩
        have X61 := Ext.trans X53 hx60
        have X62 := Ext.trans X54 hx60
        have X63 := Ext.trans X55 hx60
        have X64 := Ext.trans X56 hx60
        have X65 := Ext.trans X58 hx60
        have hb66 := hb57.ext hx60
        refine AL.val rfl (.inl rfl) (HV.mv rfl) ?_
        refine AL.val rfl (.inl rfl) (HV.ex rfl rfl) ?_
        refine AL.val rfl (.inl rfl) (HV.ex rfl rfl) ?_
        refine AL.val rfl (.inl rfl) (HV.as rfl) ?_
        refine AL.val rfl (.inl rfl) (HV.as rfl) ?_
        refine AL.nx ?_
        refine AW.rs ?_
        refine AL.val rfl (.inl rfl) (HV.lda (cs := [.int .i64 n, vo, .int .i64 p, .int .i64 k, v]) rfl va27 (at_cells hb66 rfl)) ?_
        refine AL.w rfl (.inl rfl) (WV.call fn15 rfl (toSc_ok n p k (ho.ext X61) (hr.ext X61) (he20 (by omega)).1 (he20 (by omega)).2)) ?_
        rintro _ H70 ⟨⟨u67, v68, B69, rfl, ho72, ho73⟩, hx71⟩
        have X76 := Ext.trans X61 hx71
        have X77 := Ext.trans X62 hx71
        have X78 := Ext.trans X63 hx71
        have X79 := Ext.trans X64 hx71
        have X80 := Ext.trans X65 hx71
        have hb81 := hb66.ext hx71
        have X82 := Ext.refl H70
        have hr74 := ho72.rd
        have hr75 := rd_ofO ho73.rd
        refine AL.w rfl (.inl rfl) (WV.al ze31 rfl) ?_
        rintro _ H84 ⟨b83, rfl, hx85, hn86, hb87⟩
        have o88 := Nat.le_trans X76.bd hn86
        have o89 := Nat.le_trans X77.bd hn86
        have o90 := Nat.le_trans X78.bd hn86
        have o91 := Nat.le_trans X79.bd hn86
        have o92 := Nat.le_trans X80.bd hn86
        have o93 := Nat.le_trans X82.bd hn86
        have ne94 : b5 ≠ b83 := by have := hb81.lt; omega
        have X95 := Ext.trans X76 hx85
        have X96 := Ext.trans X77 hx85
        have X97 := Ext.trans X78 hx85
        have X98 := Ext.trans X79 hx85
        have X99 := Ext.trans X80 hx85
        have X100 := Ext.trans X82 hx85
        have hb101 := hb81.ext hx85
        have X102 := Ext.refl H84
        refine AL.w0 (.inl rfl) (WV.st rfl rfl va31 rfl hb87 (Nat.le_of_ble_eq_true rfl) (one_cons rfl (one_cons (sl_one1 (hr74.ext X100).isSl) (one_cons rfl (one_cons rfl (one_cons (sl_one1 (hr75.ext X100).isSl) one_nil)))))) ?_
        rintro _ H103 ⟨hx104, hb105⟩
        have X106 := Ext.thru X95 hx104 (fun z_ hz_ => by rw [hz_]; exact o88)
        have X107 := Ext.thru X96 hx104 (fun z_ hz_ => by rw [hz_]; exact o89)
        have X108 := Ext.thru X97 hx104 (fun z_ hz_ => by rw [hz_]; exact o90)
        have X109 := Ext.thru X98 hx104 (fun z_ hz_ => by rw [hz_]; exact o91)
        have X110 := Ext.thru X99 hx104 (fun z_ hz_ => by rw [hz_]; exact o92)
        have X111 := Ext.thru X100 hx104 (fun z_ hz_ => by rw [hz_]; exact o93)
        have hb113 := hb101.but hx104 ne94
        have hb114 : At W H103 b83 ⟨31, [.int .i64 n, u67, .int .i64 p, .int .i64 k, v68], 5⟩ := hb105
        refine AL.nx ?_
        refine AW.rs ?_
        refine AL.val rfl (.inl rfl) (HV.mv rfl) ?_
        refine AL.w rfl (.inl rfl) (WV.call fn21 rfl (toS_ok (hrg.ext X106) (by omega))) ?_
        rintro v115 H116 ⟨hx117, ho118⟩
        have X120 := Ext.trans X106 hx117
        have X121 := Ext.trans X107 hx117
        have X122 := Ext.trans X108 hx117
        have X123 := Ext.trans X109 hx117
        have X124 := Ext.trans X110 hx117
        have X125 := Ext.trans X111 hx117
        have hb126 := hb113.ext hx117
        have hb127 := hb114.ext hx117
        have X128 := Ext.refl H116
        have hr119 : RdK kI W H116 _ v115 g := ho118.rd
        refine AL.val rfl (.inl rfl) (HV.as rfl) ?_
        refine AL.nx ?_
        refine AW.rs ?_
        refine AL.val rfl (.inl rfl) (HV.mv rfl) ?_
        refine AL.w rfl (.inl rfl) (WV.call fn21 rfl (toS_ok (hrh.ext X120) (by omega))) ?_
        rintro v129 H130 ⟨hx131, ho132⟩
        have X134 := Ext.trans X120 hx131
        have X135 := Ext.trans X121 hx131
        have X136 := Ext.trans X122 hx131
        have X137 := Ext.trans X123 hx131
        have X138 := Ext.trans X124 hx131
        have X139 := Ext.trans X125 hx131
        have X140 := Ext.trans X128 hx131
        have hb141 := hb126.ext hx131
        have hb142 := hb127.ext hx131
        have X143 := Ext.refl H130
        have hr133 : RdK kI W H130 _ v129 h := ho132.rd
        refine AL.val rfl (.inl rfl) (HV.as rfl) ?_
        refine AL.nx ?_
        refine AW.rs ?_
        refine AL.val rfl (.inl rfl) (HV.lda (cs := [.int .i64 n, u67, .int .i64 p, .int .i64 k, v68]) rfl va31 (at_cells hb142 rfl)) ?_
        refine AL.val rfl (.inl rfl) (HV.mv rfl) ?_
        refine AL.val rfl (.inl rfl) (HV.mv rfl) ?_
        refine AL.w rfl (.inl rfl) (WV.call fn33 rfl (implRB_ok n p k (hr74.ext X139) (hr75.ext X139) (hr119.ext X140) hr133)) ?_
        rintro _ H144 ⟨rfl, hx145⟩
        have X146 := Ext.trans X134 hx145
        have X147 := Ext.trans X135 hx145
        have X148 := Ext.trans X136 hx145
        have X149 := Ext.trans X137 hx145
        have X150 := Ext.trans X138 hx145
        have X151 := Ext.trans X139 hx145
        have X152 := Ext.trans X140 hx145
        have X153 := Ext.trans X143 hx145
        have hb154 := hb141.ext hx145
        have hb155 := hb142.ext hx145
        refine AL.val rfl (.inl rfl) (HV.mv rfl) ?_
        refine AL.val rfl (.inl rfl) (HV.ex rfl rfl) ?_
        refine AL.val rfl (.inl rfl) (HV.ex rfl rfl) ?_
        refine AL.val rfl (.inl rfl) (HV.as rfl) ?_
        refine AL.val rfl (.inl rfl) (HV.as rfl) ?_
        refine AL.nx ?_
        refine AW.seq ?_
        refine AW.rs ?_
        refine AL.val rfl (.inl rfl) (HV.mv rfl) ?_
        refine AL.val rfl (.inl rfl) (HV.mv rfl) ?_
        refine AL.val rfl (.inl rfl) (HV.nei rfl rfl) ?_
        refine AL.val rfl (.inl rfl) (HV.mv rfl) ?_
        by_cases c156 : (rbV n o p k l g h) ≠ (rbV n o p k l g h)
        · -- true
          have c156_ : decide ((rbV n o p k l g h) ≠ (rbV n o p k l g h)) = true := decide_eq_true c156
          rw [c156_]
          refine AL.off rfl rfl (by decide) rfl ?_
          refine AL.off rfl rfl (by decide) rfl ?_
          refine AL.off rfl rfl (by decide) rfl ?_
          refine AL.val rfl (.inl rfl) (HV.pickT rfl rfl) ?_
          refine AL.nx ?_
          refine AW.cond rfl (fun _ => ?_) (fun h => by cases h)
          refine AW.rs ?_
          refine AL.val rfl (.inl rfl) (HV.as rfl) ?_
          refine AL.nx ?_
          refine AW.ret ?_
          refine ret_and ?_
          refine post_one rfl rfl ?_ (.inr rfl)
          exfalso; first | omega | (simp at c156; done) | exact c156 ⟨rfl, rfl, rfl, rfl, rfl⟩ | exact absurd c156 (by simp)
        · -- false
          have c156_ : decide ((rbV n o p k l g h) ≠ (rbV n o p k l g h)) = false := decide_eq_false c156
          rw [c156_]
          refine AL.val rfl (.inr ⟨_, _, _, rfl, rfl, rfl⟩) (HV.mv rfl) ?_
          refine AL.val rfl (.inr ⟨_, _, _, rfl, rfl, rfl⟩) (HV.mv rfl) ?_
          refine AL.val rfl (.inr ⟨_, _, _, rfl, rfl, rfl⟩) (HV.nei rfl rfl) ?_
          refine AL.val rfl (.inl rfl) (HV.pickF rfl rfl) ?_
          refine AL.nx ?_
          refine AW.ifd rfl (fun c158 => ?_) (fun c158 => ?_)
          · -- then
            refine AW.rs ?_
            refine AL.val rfl (.inl rfl) (HV.as rfl) ?_
            refine AL.nx ?_
            refine AW.ret ?_
            refine ret_and ?_
            refine post_one rfl rfl ?_ (.inr rfl)
            exfalso; first | omega | (simp at c158; done) | exact c158 ⟨rfl, rfl, rfl, rfl, rfl⟩ | exact absurd c158 (by simp)
          · -- else
            refine AW.skip ?_
            refine nrm_and ?_
            refine AW.seq ?_
            refine AW.seq ?_
            refine AW.draw' [0, 0, 2, 7, 15] mixed (by rfl) ?_
            refine Dr.read 0 _ 57 _ rfl rfl rfl rfl rfl (RV.of (by intro _ _ h; cases h) (.inl rfl) (fun _ xd => HV.lda (cs := [.int .i64 n, u67, .int .i64 p, .int .i64 k, v68]) rfl va31 (fun j u hu => rdc_ext xd ((at_cells hb155 rfl) j u hu)))) ?_
            refine Dr.read 1 _ 58 _ rfl rfl rfl rfl rfl (RV.of (by intro _ _ h; cases h) (.inl rfl) (fun _ xd => HV.lda (cs := [.int .i64 n, vo, .int .i64 p, .int .i64 k, v]) rfl va27 (fun j u hu => rdc_ext xd ((at_cells hb154 rfl) j u hu)))) ?_
            refine Dr.eff 2 _ _ rfl (by intro d h; cases h; exact ⟨rfl, rfl⟩) rfl rfl rfl (EC.of (by intro _ _ h; cases h) (.inl rfl) (WV.call fn15 rfl (toSc_ok n p k (ho.ext X146) (hr.ext X146) (he20 (by omega)).1 (he20 (by omega)).2))) (fun v H' h => .inl (h.2)) ?_
            rintro _ H162 ⟨⟨u159, v160, B161, rfl, ho164, ho165⟩, hx163⟩
            have X168 := Ext.trans X146 hx163
            have X169 := Ext.trans X147 hx163
            have X170 := Ext.trans X148 hx163
            have X171 := Ext.trans X149 hx163
            have X172 := Ext.trans X150 hx163
            have X173 := Ext.trans X151 hx163
            have X174 := Ext.trans X152 hx163
            have X175 := Ext.trans X153 hx163
            have hb176 := hb154.ext hx163
            have hb177 := hb155.ext hx163
            have X178 := Ext.refl H162
            have hr166 := ho164.rd
            have hr167 := rd_ofO ho165.rd
            refine Dr.eff 3 _ _ rfl (by intro d h; cases h; exact ⟨rfl, rfl⟩) rfl rfl rfl (EC.of (by intro _ _ h; cases h) (.inl rfl) (WV.call fn17 rfl (eqSc_ok n p k n p k (hr74.ext X173) (hr75.ext X173) hr166 hr167))) (fun v H' h => .inl (h.2)) ?_
            rintro _ H179 ⟨rfl, hx180⟩
            have X181 := Ext.trans X168 hx180
            have X182 := Ext.trans X169 hx180
            have X183 := Ext.trans X170 hx180
            have X184 := Ext.trans X171 hx180
            have X185 := Ext.trans X172 hx180
            have X186 := Ext.trans X173 hx180
            have X187 := Ext.trans X174 hx180
            have X188 := Ext.trans X175 hx180
            have X189 := Ext.trans X178 hx180
            have hb190 := hb176.ext hx180
            have hb191 := hb177.ext hx180
            refine Dr.read 4 _ 61 _ rfl rfl rfl rfl rfl (RV.of (by intro _ _ h; cases h) (.inl rfl) (fun _ xd => HV.not rfl)) ?_
            refine Dr.fin rfl ?_
            refine nrm_and ?_
            refine AW.ifn rfl (fun c192 => ?_) (fun c192 => ?_)
            · -- then
              refine AW.rs ?_
              refine AL.val rfl (.inl rfl) (HV.as rfl) ?_
              refine AL.nx ?_
              refine AW.ret ?_
              refine ret_and ?_
              refine post_one rfl rfl ?_ (.inr rfl)
              exfalso; first | omega | (simp at c192; done) | exact c192 ⟨rfl, rfl, rfl, rfl, rfl⟩ | exact absurd c192 (by simp)
            · -- else
              refine AW.skip ?_
              refine nrm_and ?_
              refine AW.seq ?_
              refine AW.rs ?_
              refine AL.val rfl (.inl rfl) (HV.mv rfl) ?_
              refine AL.val rfl (.inl rfl) (HV.mv rfl) ?_
              refine AL.w rfl (.inl rfl) (WV.call fn21 rfl (toS_ok (hrg.ext X181) (by omega))) ?_
              rintro v193 H194 ⟨hx195, ho196⟩
              have X198 := Ext.trans X181 hx195
              have X199 := Ext.trans X182 hx195
              have X200 := Ext.trans X183 hx195
              have X201 := Ext.trans X184 hx195
              have X202 := Ext.trans X185 hx195
              have X203 := Ext.trans X186 hx195
              have X204 := Ext.trans X187 hx195
              have X205 := Ext.trans X188 hx195
              have X206 := Ext.trans X189 hx195
              have hb207 := hb190.ext hx195
              have hb208 := hb191.ext hx195
              have X209 := Ext.refl H194
              have hr197 : RdK kI W H194 _ v193 g := ho196.rd
              refine AL.w rfl (.inl rfl) (WV.call fn23 rfl (eqS_ok (hr119.ext X204) hr197)) ?_
              rintro _ H210 ⟨rfl, hx211⟩
              have X212 := Ext.trans X198 hx211
              have X213 := Ext.trans X199 hx211
              have X214 := Ext.trans X200 hx211
              have X215 := Ext.trans X201 hx211
              have X216 := Ext.trans X202 hx211
              have X217 := Ext.trans X203 hx211
              have X218 := Ext.trans X204 hx211
              have X219 := Ext.trans X205 hx211
              have X220 := Ext.trans X206 hx211
              have X221 := Ext.trans X209 hx211
              have hb222 := hb207.ext hx211
              have hb223 := hb208.ext hx211
              refine AL.val rfl (.inl rfl) (HV.not rfl) ?_
              refine AL.nx ?_
              refine AW.ifn rfl (fun c224 => ?_) (fun c224 => ?_)
              · -- then
                refine AW.rs ?_
                refine AL.val rfl (.inl rfl) (HV.as rfl) ?_
                refine AL.nx ?_
                refine AW.ret ?_
                refine ret_and ?_
                refine post_one rfl rfl ?_ (.inr rfl)
                exfalso; first | omega | (simp at c224; done) | exact c224 ⟨rfl, rfl, rfl, rfl, rfl⟩ | exact absurd c224 (by simp)
              · -- else
                refine AW.skip ?_
                refine nrm_and ?_
                refine AW.seq ?_
                refine AW.rs ?_
                refine AL.val rfl (.inl rfl) (HV.mv rfl) ?_
                refine AL.val rfl (.inl rfl) (HV.mv rfl) ?_
                refine AL.w rfl (.inl rfl) (WV.call fn21 rfl (toS_ok (hrh.ext X212) (by omega))) ?_
                rintro v225 H226 ⟨hx227, ho228⟩
                have X230 := Ext.trans X212 hx227
                have X231 := Ext.trans X213 hx227
                have X232 := Ext.trans X214 hx227
                have X233 := Ext.trans X215 hx227
                have X234 := Ext.trans X216 hx227
                have X235 := Ext.trans X217 hx227
                have X236 := Ext.trans X218 hx227
                have X237 := Ext.trans X219 hx227
                have X238 := Ext.trans X220 hx227
                have X239 := Ext.trans X221 hx227
                have hb240 := hb222.ext hx227
                have hb241 := hb223.ext hx227
                have X242 := Ext.refl H226
                have hr229 : RdK kI W H226 _ v225 h := ho228.rd
                refine AL.w rfl (.inl rfl) (WV.call fn23 rfl (eqS_ok (hr133.ext X237) hr229)) ?_
                rintro _ H243 ⟨rfl, hx244⟩
                have X245 := Ext.trans X230 hx244
                have X246 := Ext.trans X231 hx244
                have X247 := Ext.trans X232 hx244
                have X248 := Ext.trans X233 hx244
                have X249 := Ext.trans X234 hx244
                have X250 := Ext.trans X235 hx244
                have X251 := Ext.trans X236 hx244
                have X252 := Ext.trans X237 hx244
                have X253 := Ext.trans X238 hx244
                have X254 := Ext.trans X239 hx244
                have X255 := Ext.trans X242 hx244
                have hb256 := hb240.ext hx244
                have hb257 := hb241.ext hx244
                refine AL.val rfl (.inl rfl) (HV.not rfl) ?_
                refine AL.nx ?_
                refine AW.ifn rfl (fun c258 => ?_) (fun c258 => ?_)
                · -- then
                  refine AW.rs ?_
                  refine AL.val rfl (.inl rfl) (HV.as rfl) ?_
                  refine AL.nx ?_
                  refine AW.ret ?_
                  refine ret_and ?_
                  refine post_one rfl rfl ?_ (.inr rfl)
                  exfalso; first | omega | (simp at c258; done) | exact c258 ⟨rfl, rfl, rfl, rfl, rfl⟩ | exact absurd c258 (by simp)
                · -- else
                  refine AW.skip ?_
                  refine nrm_and ?_
                  refine AW.rs ?_
                  refine AL.val rfl (.inl rfl) (HV.as rfl) ?_
                  refine AL.nx ?_
                  refine AW.ret ?_
                  refine post_one rfl rfl ?_ (.inr rfl)
                  exact ⟨rfl, X245⟩
end Go.Proofs.Yticobjbjejpomaa.VC
