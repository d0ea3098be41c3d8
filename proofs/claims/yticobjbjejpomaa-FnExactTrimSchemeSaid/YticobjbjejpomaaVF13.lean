/- Walks. -/
import Derived.Test.YticobjbjejpomaaVF5
set_option linter.unusedVariables false
set_option linter.unusedSimpArgs false
namespace Go.Proofs.Yticobjbjejpomaa.VC
open Go Go.RowKit
theorem turn_len (l : List (List Int)) (C : Nat) : (turnL l C).length = C := by simp [turnL]
theorem turn_get {l : List (List Int)} {C c : Nat} (h : c < C) : (turnL l C).getD c [] = colT l c := by simp [turnL, List.getD_eq_getElem?_getD, h]
theorem turn_succ (l : List (List Int)) (c : Nat) : turnL l (c + 1) = turnL l c ++ [colT l c] := by
  unfold turnL
  rw [List.range_succ, List.map_append]; rfl
theorem turn_rect {p : Int} {K : Nat} {l : List (List Int)} (hp : 0 < p) (h : rect p K l) : rect p l.length (turnL l K) := fun c hc => by
  rw [turn_len] at hc
  rw [turn_get hc]
  refine ⟨by simp [colT], fun j hj => ?_⟩
  rw [colT_get]
  exact rect_el hp h (by simpa [colT] using hj) c
theorem bes_turn (l : List (List Int)) (tg : List Int) (K : Nat) : besL (turnL l K) [tg] (turnL l K).length = wideT l tg K := by
  rw [turn_len]
  apply list_eq (d := []) (by rw [besL_len, wideT_len])
  intro c hc
  rw [besL_len] at hc
  rw [besL_get hc, bes_one, turn_get hc, wideT_get hc]
theorem comb_sol {p : Int} {K : Nat} {l : List (List Int)} {tg : List Int} (hq : isPr p = true) (h : rect p K l) (ht : elems p tg) (htl : tg.length = K) : solM p l.length (besL (turnL l K) [tg] (turnL l K).length) = combI p l tg := by
  rw [bes_turn]; exact (comb_eq hq h ht htl).symm
theorem combI_in {p : Int} {K : Nat} {l : List (List Int)} {tg : List Int} (hq : isPr p = true) (h : rect p K l) (ht : elems p tg) (htl : tg.length = K) : elems p (combI p l tg).1 ∧ ((combI p l tg).2 = true → (combI p l tg).1.length = l.length) ∧ (combI p l tg).1.length ≤ l.length := by
  obtain ⟨h1, h2⟩ := combI_end hq h ht htl
  cases e : (combI p l tg).2 with
  | true => exact ⟨(h1 e).2.1, fun _ => (h1 e).1, Nat.le_of_eq (h1 e).1⟩
  | false => rw [(h2 e).1]; exact ⟨fun j hj => absurd hj (Nat.not_lt_zero _), fun q => absurd q (by simp), Nat.zero_le _⟩
theorem unitL_len (m i : Nat) : (unitL m i).length = m := by simp [unitL]
def openX (p k : Int) (o : List Int) (l : List (List Int)) (g : List Int) : List Int × Bool := combI p (partL l (idxG o g)) (unitL k.toNat 0)
noncomputable def soB (n : Int) (o : List Int) (p k : Int) (l : List (List Int)) (g : List Int) : Bool := if askC n o p k l g = 0 then (openX p k o l g).2 else false
noncomputable def oeC (n : Int) (o : List Int) (p k : Int) (l : List (List Int)) (g : List Int) : Int := if askC n o p k l g = 0 then if (openX p k o l g).2 = true then 0 else 6 else askC n o p k l g
noncomputable def oeL (n : Int) (o : List Int) (p k : Int) (l : List (List Int)) (g : List Int) : List Int := if askC n o p k l g = 0 then if (openX p k o l g).2 = true then (openX p k o l g).1 else [] else []
def dotI (a b : List Int) (j : Nat) : Int := (List.range j).foldl (fun s i => s + a.getD i 0 * b.getD i 0) 0
theorem dotI_succ (a b : List Int) (j : Nat) : dotI a b (j + 1) = dotI a b j + a.getD j 0 * b.getD j 0 := by
  unfold dotI
  rw [List.range_succ, List.foldl_append]; rfl
theorem dotI_in {p : Int} {a b : List Int} (hp : 2 ≤ p ∧ p ≤ 31) (ha : elems p a) (hb : elems p b) : ∀ j : Nat, 0 ≤ dotI a b j ∧ dotI a b j ≤ 961 * j
  | 0 => by simp [dotI]
  | j + 1 => by
    have h := dotI_in hp ha hb j
    have h1 := getD_in ha (show 0 < p by omega) j
    have h2 := getD_in hb (show 0 < p by omega) j
    have h3 := mul31 (a := a.getD j 0) (b := b.getD j 0) (by omega) (by omega) (by omega) (by omega)
    rw [dotI_succ]; omega
noncomputable def rbC (n : Int) (o : List Int) (p k : Int) (l : List (List Int)) (g h : List Int) : Int := if withC n o p k l g h = 0 then if (openX p k o l g).2 = true then if conB n o p k l g h = true then 0 else 4 else 6 else withC n o p k l g h
noncomputable def rbV (n : Int) (o : List Int) (p k : Int) (l : List (List Int)) (g h : List Int) : Int := if withC n o p k l g h = 0 ∧ (openX p k o l g).2 = true ∧ conB n o p k l g h = true then dotI (openX p k o l g).1 h (openX p k o l g).1.length % p else 0
theorem ScF.opn {n : Int} {o : List Int} {p k : Int} {l : List (List Int)} (h : ScF n o p k l) (g : List Int) : elems p (openX p k o l g).1 ∧ ((openX p k o l g).2 = true → (openX p k o l g).1.length = (idxG o g).length) ∧ (openX p k o l g).1.length ≤ 20 := by
  obtain ⟨h1, h2, _⟩ := h.part g
  have h3 := combI_in h.q h1 (unitL_in h.pb.1 k.toNat 0) (unitL_len _ _)
  rw [partL_len] at h3
  exact ⟨h3.1, h3.2.1, by have := h3.2.2; unfold openX; omega⟩
theorem oeL_len {n : Int} {o : List Int} {p k : Int} {l : List (List Int)} {g : List Int} : (oeL n o p k l g).length ≤ 20 := by
  unfold oeL
  split
  · rename_i h
    split
    · exact ((okSc_f (askC_z h).1).opn g).2.2
    · exact Nat.zero_le _
  · exact Nat.zero_le _
theorem bnot_f {b : Bool} (h : (!b) = false) : b = true := by cases b <;> simp_all
theorem bnot_t {b : Bool} (h : (!b) = true) : b = false := by cases b <;> simp_all
/-- The places of the rows that the rows before don't make. -/
def freshL (p : Int) (l : List (List Int)) : Nat → List Int
  | 0 => []
  | i + 1 => if (combI p (l.take i) (l.getD i [])).2 = true then freshL p l i else freshL p l i ++ [(i : Int)]
theorem fresh_yes {p : Int} {l : List (List Int)} {i : Nat} {z : List Int} (hz : l[(i : Int).toNat]? = some z) (h : (combI p (l.take (i : Int).toNat) z).2 = false) : freshL p l (i + 1) = freshL p l i ++ [(i : Int)] := by
  rw [Int.toNat_natCast] at h
  have e : l.getD i [] = z := gd hz rfl
  simp only [freshL]
  rw [e, if_neg (by rw [h]; decide)]
theorem fresh_no {p : Int} {l : List (List Int)} {i : Nat} {z : List Int} (hz : l[(i : Int).toNat]? = some z) (h : (combI p (l.take (i : Int).toNat) z).2 = true) : freshL p l (i + 1) = freshL p l i := by
  rw [Int.toNat_natCast] at h
  have e : l.getD i [] = z := gd hz rfl
  simp only [freshL]
  rw [e, if_pos h]
theorem fresh_len (p : Int) (l : List (List Int)) : ∀ i : Nat, (freshL p l i).length ≤ i
  | 0 => Nat.le_refl _
  | i + 1 => by
    have := fresh_len p l i
    simp only [freshL]
    split
    · omega
    · rw [List.length_append]; simp only [List.length_singleton]; omega
theorem rect_take {p : Int} {K : Nat} {l : List (List Int)} (h : rect p K l) (i : Nat) : rect p K (l.take (i : Int).toNat) := fun j hj => by
  rw [Int.toNat_natCast] at hj ⊢
  rw [List.length_take] at hj
  have := h j (by omega)
  rw [List.getD_eq_getElem?_getD, List.getElem?_take_of_lt (by omega), ← List.getD_eq_getElem?_getD]
  exact this
variable {W : World} {H : Hp}

set_option maxRecDepth 100000 in
theorem turned_ok {ad : Addr} {v : Value} {l : List (List Int)} {ok : Nat → Prop} (p k : Int) (hr : RdK (kR kI) W H ok v l) (hc : Cells W H ad [.int .i64 p, .int .i64 k, v]) {K : Nat} (hkK : k = (K : Int)) (hrc : rect p K l) (hK : K ≤ 40) (hR : l.length ≤ 40) : ACalls Try.prog W 91 #[.pointer (some ad)] H (fun r H' => (∃ u, r = .agg #[.int .i64 p, .int .i64 (l.length : Int), u] ∧ OwnD (kO 2 kI) 22 W H' (fun b => H.bd ≤ b) u (turnL l K)) ∧ Ext H H') := by
  refine ACalls.of (args := [.pointer (some ad)]) Try.func91 rfl rfl ?_
  have X0 := Ext.refl H
  have hmx := hr.max
  refine AW.rs ?_
  refine AL.w rfl (.inl rfl) (WV.al ze29 rfl) ?_
  rintro _ H2 ⟨b1, rfl, hx3, hn4, hb5⟩
  have o6 := Nat.le_trans X0.bd hn4
  have X7 := Ext.trans X0 hx3
  have X8 := Ext.refl H2
  refine AL.nx ?_
  refine AW.seq ?_
  refine AW.draw' [0, 1, 3, 7, 0, 16, 48, 112, 240, 511, 0, 2047] mixed (by rfl) ?_
  refine Dr.read 0 _ 7 _ rfl rfl rfl rfl rfl (RV.of (by intro _ _ h; cases h) (.inl rfl) (fun _ xd => HV.mv rfl)) ?_
  refine Dr.read 1 _ 8 _ rfl rfl rfl rfl rfl (RV.of (by intro _ _ h; cases h) (.inl rfl) (fun _ xd => HV.nc rfl)) ?_
  refine Dr.read 2 _ 9 _ rfl rfl rfl rfl rfl (RV.of (by intro _ _ h; cases h) (.inl rfl) (fun _ xd => HV.fa fl29_0 rfl)) ?_
  refine Dr.read 3 _ 10 _ rfl rfl rfl rfl rfl (RV.of (by intro _ _ h; cases h) (.inl rfl) (fun _ xd => HV.ld rfl va2 (rdc_ext xd (cells_first (hc.ext X7) rfl)))) ?_
  refine Dr.read 4 _ 11 _ rfl rfl rfl rfl rfl (RV.of (by intro _ _ h; cases h) (.inl rfl) (fun _ xd => HV.mv rfl)) ?_
  refine Dr.read 5 _ 12 _ rfl rfl rfl rfl rfl (RV.of (by intro _ _ h; cases h) (.inl rfl) (fun _ xd => HV.nc rfl)) ?_
  refine Dr.read 6 _ 13 _ rfl rfl rfl rfl rfl (RV.of (by intro _ _ h; cases h) (.inl rfl) (fun _ xd => HV.fa fl29_2 rfl)) ?_
  refine Dr.read 7 _ 14 _ rfl rfl rfl rfl rfl (RV.of (by intro _ _ h; cases h) (.inl rfl) (fun _ xd => HV.ld rfl va23 (rdc_ext xd (cells_at (hc.ext X7) rfl)))) ?_
  refine Dr.read 8 _ 15 _ rfl rfl rfl rfl rfl (RV.of (by intro _ _ h; cases h) (.inl rfl) (fun _ xd => HV.len Try.underlying23 rfl hr.isSl)) ?_
  refine Dr.read 9 _ 16 _ rfl rfl rfl rfl rfl (RV.of (by intro _ _ h; cases h) (.inl rfl) (fun _ xd => HV.bd rfl (bd29_0_1 p (l.length : Int)))) ?_
  refine Dr.eff 10 _ _ rfl (by intro d h; cases h; exact ⟨rfl, rfl⟩) rfl rfl rfl (EC.of (by intro _ _ h; cases h) (.inl rfl) (WV.al ze29 rfl)) (fun v H' h => .inl (h.choose_spec.2.1)) ?_
  rintro _ H10 ⟨b9, rfl, hx11, hn12, hb13⟩
  have o14 := Nat.le_trans X7.bd hn12
  have o15 := Nat.le_trans X8.bd hn12
  have ne16 : b1 ≠ b9 := by have := hb5.lt; omega
  have X17 := Ext.trans X7 hx11
  have X18 := Ext.trans X8 hx11
  have hb19 := hb5.ext hx11
  have X20 := Ext.refl H10
  refine Dr.eff 11 _ _ rfl (by intro d h; cases h) rfl rfl rfl (EC.of (by intro _ _ h; cases h) (.inl rfl) (WV.st rfl rfl va29 rfl hb13 (Nat.le_of_ble_eq_true rfl) (one_cons rfl (one_cons rfl (one_cons (sl_one1 ⟨none, 0, rfl⟩) one_nil))))) (fun v H' h => .inr (.inl rfl)) ?_
  rintro _ H21 ⟨hx22, hb23⟩
  have X24 := Ext.thru X17 hx22 (fun z_ hz_ => by rw [hz_]; exact o14)
  have X25 := Ext.thru X18 hx22 (fun z_ hz_ => by rw [hz_]; exact o15)
  have hb27 := hb19.but hx22 ne16
  have hb28 : At W H21 b9 ⟨29, [.int .i64 p, .int .i64 (l.length : Int), (.slice none 0 0)], 3⟩ := hb23
  refine Dr.fin rfl ?_
  refine nrm_and ?_
  refine AW.seq ?_
  refine AW.rs ?_
  refine AL.val rfl (.inl rfl) (HV.as rfl) ?_
  refine AL.nx ?_
  refine AW.block ?_
  have X29 := Ext.refl H21
  have y30 := hb27.lt
  have y31 := hb28.lt
  have o32 := X24.bd
  have o33 := X25.bd
  have o34 := X29.bd
  have ho35 : OwnD (kO 2 kI) 22 W H21 (fun b => H21.bd ≤ b) (.slice none 0 0) ([] : List (List Int)) := OwnD.nil _
  refine AW.loop (σ := Nat × Value) (fun ⟨i, vv⟩ => [(0, .pointer (some ad)), (2, .pointer (some ⟨b1, 0, none⟩)), (3, .pointer (some ⟨b9, 0, none⟩)), (4, .int .i64 (i : Int))]) (fun ⟨i, vv⟩ H' => Ext H H' ∧ Ext H2 H' ∧ At W H' b1 ⟨29, [.int .i64 0, .int .i64 0, (.slice none 0 0)], 3⟩ ∧ H21.bd ≤ H'.bd ∧ i ≤ K ∧ At W H' b9 ⟨29, [.int .i64 p, .int .i64 (l.length : Int), vv], 3⟩ ∧ OwnD (kO 2 kI) 22 W H' (fun b => H21.bd ≤ b) vv (turnL l i) ∧ True) (fun ⟨i, vv⟩ => K - i) (0, (.slice none 0 0)) ⟨X24, X25, hb27, X29.bd, Nat.zero_le _, hb28, ho35, trivial⟩ ⟨rfl, rfl, rfl, rfl, trivial⟩ ?_
  rintro ⟨i, vv⟩ H37 ⟨X38, X39, hb40, q41, hi, hbB, hoL, _⟩
  refine AW.seq ?_
  refine AW.rs ?_
  refine AL.val rfl (.inl rfl) (HV.mv rfl) ?_
  refine AL.val rfl (.inl rfl) (HV.mv rfl) ?_
  refine AL.val rfl (.inl rfl) (HV.nc rfl) ?_
  refine AL.val rfl (.inl rfl) (HV.fa fl29_1 rfl) ?_
  refine AL.val rfl (.inl rfl) (HV.ld rfl va2 (cells_at (hc.ext X38) rfl)) ?_
  refine AL.val rfl (.inl rfl) (HV.lti rfl rfl) ?_
  refine AL.nx ?_
  refine AW.ifd rfl (fun c42 => ?_) (fun c42 => ?_)
  · -- then
    refine AW.skip ?_
    refine nrm_and ?_
    refine AW.seq ?_
    refine AW.block ?_
    refine AW.rs ?_
    have X43 := Ext.refl H37
    have y44 := hb40.lt
    have y45 := hbB.lt
    have o46 := X38.bd
    have o47 := X39.bd
    have o48 := X43.bd
    have a49 := hoL.ltb
    have ho50 := hoL.okk (ok' := fun b => H21.bd ≤ b ∧ b < H37.bd) (fun b hb hlt => ⟨hb, hlt⟩)
    refine AL.w rfl (.inl rfl) (WV.bsK (K := kI) (l := ([] : List Int)) (css := []) sl22 rfl rfl (by first | rfl | (simp [Instr.fill, Value.cells, kI, kB, kU, kU8, kS, Kd.sc]; done) | (simp [Instr.fill, Value.cells, kI, kB, kU, kU8, kS, Kd.sc, rng1, rng2, rng3, rng4, kP])) rfl segs_nil) ?_
    rintro v51 H52 ⟨hx53, ho54⟩
    have q55 := Nat.le_trans q41 hx53.bd
    have X56 := Ext.trans X38 hx53
    have X57 := Ext.trans X39 hx53
    have X58 := Ext.trans X43 hx53
    have ho59 := ho50.ext hx53
    have hb60 := hb40.ext hx53
    have hb61 := hbB.ext hx53
    refine AL.val rfl (.inl rfl) (HV.as rfl) ?_
    refine AL.nx ?_
    refine AW.seq ?_
    refine AW.rs ?_
    refine AL.val rfl (.inl rfl) (HV.as rfl) ?_
    refine AL.nx ?_
    refine AW.block ?_
    refine AW.loop (σ := Nat × Value) (fun ⟨j, vr⟩ => [(0, .pointer (some ad)), (2, .pointer (some ⟨b1, 0, none⟩)), (3, .pointer (some ⟨b9, 0, none⟩)), (4, .int .i64 (i : Int)), (17, .int .i64 (i : Int)), (18, .pointer (some ad)), (19, .pointer (some ad)), (21, .int .i64 k), (22, .bool (decide ((i : Int) < k))), (25, v51), (5, vr), (6, .int .i64 (j : Int))]) (fun ⟨j, vr⟩ H' => Ext H H' ∧ Ext H2 H' ∧ Ext H37 H' ∧ At W H' b1 ⟨29, [.int .i64 0, .int .i64 0, (.slice none 0 0)], 3⟩ ∧ At W H' b9 ⟨29, [.int .i64 p, .int .i64 (l.length : Int), vv], 3⟩ ∧ H21.bd ≤ H'.bd ∧ j ≤ l.length ∧ OwnD (kO 2 kI) 22 W H' (fun b => H21.bd ≤ b ∧ b < H37.bd) vv (turnL l i) ∧ OwnK kI 2 W H' (fun b => H37.bd ≤ b) vr (colT (l.take j) i) ∧ True) (fun ⟨j, vr⟩ => l.length - j) (0, v51) ⟨X56, X57, X58, hb60, hb61, q55, Nat.zero_le _, ho59, ho54, trivial⟩ ⟨rfl, rfl, rfl, rfl, rfl, rfl, rfl, rfl, rfl, rfl, rfl, rfl, trivial⟩ ?_
    rintro ⟨j, vr⟩ H63 ⟨X64, X65, X66, hb67, hb68, q69, hj, hoG, hoR, _⟩
    refine AW.seq ?_
    refine AW.rs ?_
    refine AL.val rfl (.inl rfl) (HV.mv rfl) ?_
    refine AL.val rfl (.inl rfl) (HV.mv rfl) ?_
    refine AL.val rfl (.inl rfl) (HV.nc rfl) ?_
    refine AL.val rfl (.inl rfl) (HV.fa fl29_2 rfl) ?_
    refine AL.val rfl (.inl rfl) (HV.ld rfl va23 (cells_at (hc.ext X64) rfl)) ?_
    refine AL.val rfl (.inl rfl) (HV.len Try.underlying23 rfl hr.isSl) ?_
    refine AL.val rfl (.inl rfl) (HV.lti rfl rfl) ?_
    refine AL.nx ?_
    refine AW.ifd rfl (fun c70 => ?_) (fun c70 => ?_)
    · -- then
      refine AW.skip ?_
      refine nrm_and ?_
      refine AW.seq ?_
      refine AW.block ?_
      refine AW.reg ?_
      refine AL.val rfl (.inl rfl) (HV.mv rfl) ?_
      refine AL.val rfl (.inl rfl) (HV.mv rfl) ?_
      refine AL.val rfl (.inl rfl) (HV.nc rfl) ?_
      refine AL.val rfl (.inl rfl) (HV.fa fl29_2 rfl) ?_
      refine AL.val rfl (.inl rfl) (HV.ld rfl va23 (cells_at (hc.ext X64) rfl)) ?_
      refine AL.val rfl (.inl rfl) (HV.mv rfl) ?_
      obtain ⟨p71, z72, cs73, hz74, hK75, hC76, hP77⟩ := RdK.ix (q := (j : Int)) hr sl23 (by omega) (by omega)
      obtain ⟨v78, rfl, hr79⟩ := hK75
      have hm80 := hr79.max
      refine AL.val rfl (.inl rfl) (hP77 rfl rfl) ?_
      refine AL.val rfl (.inl rfl) (HV.ld rfl va22 (cells_first (hC76.ext X64) rfl)) ?_
      refine AL.val rfl (.inl rfl) (HV.mv rfl) ?_
      obtain ⟨p81, z82, cs83, hz84, hK85, hC86, hP87⟩ := RdK.ix (q := (i : Int)) hr79 sl22 (by omega) (by have := rect_at hrc hz74; omega)
      obtain rfl : cs83 = [.int .i64 z82] := hK85
      refine AL.val rfl (.inl rfl) (hP87 rfl rfl) ?_
      refine AL.val rfl (.inl rfl) (HV.ld rfl va2 (cells_first (hC86.ext X64) rfl)) ?_
      have X88 := Ext.refl H63
      have y89 := hb67.lt
      have y90 := hb68.lt
      have o91 := X64.bd
      have o92 := X65.bd
      have o93 := X66.bd
      have o94 := X88.bd
      have a95 := hoG.ltb
      have a96 := hoR.ltb
      refine AL.w rfl (.inl rfl) (WV.bsK (K := kI) (l := ([z82] : List Int)) (css := [[.int .i64 z82]]) sl22 rfl rfl (by first | rfl | (simp [Instr.fill, Value.cells, kI, kB, kU, kU8, kS, Kd.sc]; done) | (simp [Instr.fill, Value.cells, kI, kB, kU, kU8, kS, Kd.sc, rng1, rng2, rng3, rng4, kP])) rfl (segs_cons rfl segs_nil)) ?_
      rintro v97 H98 ⟨hx99, ho100⟩
      have q101 := Nat.le_trans q69 hx99.bd
      have X102 := Ext.trans X64 hx99
      have X103 := Ext.trans X65 hx99
      have X104 := Ext.trans X66 hx99
      have X105 := Ext.trans X88 hx99
      have ho106 := hoG.ext hx99
      have ho107 := hoR.ext hx99
      have hb108 := hb67.ext hx99
      have hb109 := hb68.ext hx99
      have X111 := Ext.refl H98
      refine AL.w rfl (.inl rfl) (WV.apk sl22 rfl rfl ho107 ho100.rd (by simp only [colT, List.length_map, List.length_take, List.length_singleton]; omega) (by simp only [colT, List.length_map, List.length_take, List.length_singleton]; omega) (fun b hb _ e => Nat.lt_irrefl _ (Nat.lt_of_lt_of_le (a96 b e) hb))) ?_
      rintro v112 H113 ⟨hx114, ho115, hb116⟩
      have ho117 := ho115.narrow (ok' := fun b => H37.bd ≤ b) kI_flat (fun b q => (hb116 b q).elim (fun e => (ho107.blk b e).1) (fun e => Nat.le_trans X104.bd e))
      have q118 := Nat.le_trans q101 hx114.bd
      have X119 := Ext.thru X102 hx114 (fun b hb => Nat.le_trans o46 (ho107.blk b hb).1)
      have X120 := Ext.thru X103 hx114 (fun b hb => Nat.le_trans o47 (ho107.blk b hb).1)
      have X121 := Ext.thru X104 hx114 (fun b hb => Nat.le_trans o48 (ho107.blk b hb).1)
      have q123 := Nat.le_trans X105.bd hx114.bd
      have q125 := Nat.le_trans X111.bd hx114.bd
      have ho126 := ho106.but hx114 (fun b hb _ e => by have h1 : H21.bd ≤ b ∧ b < H37.bd := hb; have h2 : H37.bd ≤ b := (ho107.blk b e).1; omega) (fun b hb => (ho107.blk b hb).2.2)
      have hb128 := hb108.but hx114 (fun e => by have q : H37.bd ≤ _ := (ho107.blk _ e).1; omega)
      have hb129 := hb109.but hx114 (fun e => by have q : H37.bd ≤ _ := (ho107.blk _ e).1; omega)
      refine AL.val rfl (.inl rfl) (HV.as rfl) ?_
      refine AL.nil ?_
      refine nrm_blk (nrm_and ?_)
      refine AW.reg ?_
      refine AL.val rfl (.inl rfl) (HV.mv rfl) ?_
      refine AL.val rfl (.inl rfl) (HV.add rfl rfl (by omega)) ?_
      refine AL.val rfl (.inl rfl) (HV.as rfl) ?_
      refine AL.nil ?_
      refine nrm_and ?_
      exact ⟨(j + 1, v112), ⟨X119, X120, X121, hb128, hb129, q118, by omega, ho126, by have q := colT_snoc (z := []) hz74 hz84; rw [List.nil_append, List.nil_append] at q; rw [q]; exact ho117, trivial⟩, by first | omega | (dsimp only; omega), ⟨rfl, rfl, rfl, rfl, rfl, rfl, rfl, rfl, rfl, rfl, rfl, rfl, trivial⟩⟩
    · -- else
      refine AW.exit ?_
      refine ex_and (ex_and (ex_blk ?_))
      refine nrm_and ?_
      refine AW.reg ?_
      refine AL.val rfl (.inl rfl) (HV.fa fl29_2 rfl) ?_
      refine AL.val rfl (.inl rfl) (HV.ld rfl va23 (at_cell_add (j := 2) hb68 rfl)) ?_
      refine AL.val rfl (.inl rfl) (HV.mv rfl) ?_
      have X130 := Ext.refl H63
      have y131 := hb67.lt
      have y132 := hb68.lt
      have o133 := X64.bd
      have o134 := X65.bd
      have o135 := X66.bd
      have o136 := X130.bd
      have a137 := hoG.ltb
      have a138 := hoR.ltb
      have hc143 : vr.cells = #[vr] := by obtain ⟨A, c, e⟩ := hoR.isSl; rw [e]; rfl
      refine AL.w rfl (.inl rfl) (WV.bsO (okx := fun b => H37.bd ≤ b) (K := (kO 2 kI)) (l := ([(colT (l.take j) i)] : List (List Int))) (css := [[vr]]) sl23 rfl rfl (by simp [Instr.fill, hc143, kO, rng1]) rfl (segs_cons ⟨_, rfl, hoR⟩ segs_nil)) ?_
      rintro v139 H140 ⟨hx141, ho142⟩
      have q145 := Nat.le_trans q69 hx141.bd
      have X146 := Ext.trans X64 hx141
      have X147 := Ext.trans X65 hx141
      have X148 := Ext.trans X66 hx141
      have X149 := Ext.trans X130 hx141
      have ho150 := hoG.ext hx141
      have ho151 := hoR.ext hx141
      have hb152 := hb67.ext hx141
      have hb153 := hb68.ext hx141
      have ho144 := ho142.okk (ok' := fun b => H37.bd ≤ b) (fun b hb _ => hb.elim id (fun e => Nat.le_trans X66.bd e))
      have X155 := Ext.refl H140
      refine AL.w rfl (.inl rfl) (WV.apD (ok := fun b => H21.bd ≤ b) (B := H37.bd) sl23 rfl rfl ho150 ho144.rd X148.bd (by rw [turn_len]; first | omega | (simp; omega)) (by rw [turn_len]; first | omega | (simp; omega))) ?_
      rintro v156 H157 ⟨hx158, ho159, hb160⟩
      have ho161 := ho159.okk (ok' := fun b => H21.bd ≤ b) (fun b hb _ => hb.elim id (fun e => Nat.le_trans q41 e))
      have q162 := Nat.le_trans q145 hx158.bd
      have X163 := Ext.thru X146 hx158 (fun b hb => Nat.le_trans o32 (ho150.blk b hb).1.1)
      have X164 := Ext.thru X147 hx158 (fun b hb => Nat.le_trans o33 (ho150.blk b hb).1.1)
      have q166 := Nat.le_trans X148.bd hx158.bd
      have q168 := Nat.le_trans X149.bd hx158.bd
      have q170 := Nat.le_trans X155.bd hx158.bd
      have hb171 := hb152.but hx158 (fun e => by have q : H21.bd ≤ _ := (ho150.blk _ e).1.1; omega)
      have hb172 := hb153.but hx158 (fun e => by have q : H21.bd ≤ _ := (ho150.blk _ e).1.1; omega)
      refine AL.val rfl (.inl rfl) (HV.fa fl29_2 rfl) ?_
      refine AL.w0 (.inl rfl) (WV.st rfl rfl va23 (sl_size (rd_ofO ho161.rd).isSl) hb172 (Nat.le_of_ble_eq_true rfl) (sl_one (rd_ofO ho161.rd).isSl)) ?_
      rintro _ H173 ⟨hx174, hb175⟩
      rw [sl_cells (rd_ofO ho161.rd).isSl] at hb175
      have q176 := Nat.le_trans q162 hx174.bd
      have q177 := Nat.le_trans q166 hx174.bd
      have q178 := Nat.le_trans q168 hx174.bd
      have q179 := Nat.le_trans q170 hx174.bd
      have X180 := Ext.thru X163 hx174 (fun z_ hz_ => by rw [hz_]; exact o14)
      have X181 := Ext.thru X164 hx174 (fun z_ hz_ => by rw [hz_]; exact o15)
      have ho182 := ho161.but hx174 (fun b hb _ e => by have hb' : H21.bd ≤ b := hb; have e' : b = b9 := e; omega) (fun z_ hz_ => by rw [hz_]; exact hb172.w)
      have hb183 := hb171.but hx174 ne16
      have hb184 : At W H173 b9 ⟨29, [.int .i64 p, .int .i64 (l.length : Int), v156], 3⟩ := hb175
      refine AL.nil ?_
      refine nrm_blk (nrm_and ?_)
      refine AW.reg ?_
      refine AL.val rfl (.inl rfl) (HV.mv rfl) ?_
      refine AL.val rfl (.inl rfl) (HV.add rfl rfl (by omega)) ?_
      refine AL.val rfl (.inl rfl) (HV.as rfl) ?_
      refine AL.nil ?_
      refine nrm_and ?_
      exact ⟨(i + 1, v156), ⟨X180, X181, hb183, q176, by omega, hb184, by have hj2 : j = l.length := (by omega); rw [turn_succ, show colT l i = colT (l.take j) i by rw [hj2, List.take_length]]; exact ho182, trivial⟩, by first | omega | (dsimp only; omega), ⟨rfl, rfl, rfl, rfl, trivial⟩⟩
  · -- else
    refine AW.exit ?_
    refine ex_and (ex_and (ex_blk ?_))
    refine nrm_and ?_
    refine AW.rs ?_
    refine AL.val rfl (.inl rfl) (HV.lda (cs := [.int .i64 p, .int .i64 (l.length : Int), vv]) rfl va29 (at_cells hbB rfl)) ?_
    refine AL.w0 (.inl rfl) (WV.st rfl rfl va29 rfl hb40 (Nat.le_of_ble_eq_true rfl) (one_cons rfl (one_cons rfl (one_cons (sl_one1 (rd_ofO hoL.rd).isSl) one_nil)))) ?_
    rintro _ H185 ⟨hx186, hb187⟩
    have q188 := Nat.le_trans q41 hx186.bd
    have X189 := Ext.thru X38 hx186 (fun z_ hz_ => by rw [hz_]; exact o6)
    have q191 := Nat.le_trans X39.bd hx186.bd
    have ho192 := hoL.but hx186 (fun b hb _ e => by have hb' : H21.bd ≤ b := hb; have e' : b = b1 := e; omega) (fun z_ hz_ => by rw [hz_]; exact hb40.w)
    have hb193 := hbB.but hx186 (fun e => ne16 e.symm)
    have hb194 : At W H185 b1 ⟨29, [.int .i64 p, .int .i64 (l.length : Int), vv], 3⟩ := hb187
    refine AL.nx ?_
    refine AW.ret ?_
    refine post_cell rfl rfl va29 hb194 ?_ (.inr rfl)
    exact ⟨⟨_, rfl, by rw [show K = i by omega]; exact ho192.okk (fun b hb _ => Nat.le_trans o32 hb)⟩, X189⟩

set_option maxRecDepth 100000 in
theorem specComb_ok {ad : Addr} {v : Value} {l : List (List Int)} {ok : Nat → Prop} (p k : Int) (hr : RdK (kR kI) W H ok v l) (hc : Cells W H ad [.int .i64 p, .int .i64 k, v]) {vt : Value} {tg : List Int} {okt : Nat → Prop} (hrt : RdK kI W H okt vt tg) {K : Nat} (hq : isPr p = true) (hkK : k = (K : Int)) (hrc : rect p K l) (hK : K ≤ 30) (hR : l.length ≤ 30) (htg : elems p tg) (htl : tg.length = K) : ACalls Try.prog W 80 #[.pointer (some ad), vt] H (fun r H' => (∃ u, r = .tuple #[u, .bool (combI p l tg).2] ∧ OwnK kI 2 W H' (fun b => H.bd ≤ b) u (combI p l tg).1) ∧ Ext H H') := by
  refine ACalls.of (args := [.pointer (some ad), vt]) Try.func80 rfl rfl ?_
  have X0 := Ext.refl H
  have hm1 := hrt.max
  have hp := isPr_bd hq
  have hmx := hr.max
  have hcs := comb_sol hq hrc htg htl
  refine AW.rs ?_
  refine AL.val rfl (.inl rfl) (HV.as rfl) ?_
  refine AL.val rfl (.inl rfl) (HV.as rfl) ?_
  refine AL.nx ?_
  refine AW.rs ?_
  refine AL.val rfl (.inl rfl) (HV.mv rfl) ?_
  have o2 := X0.bd
  refine AL.w rfl (.inl rfl) (WV.call fn91 rfl (turned_ok p k hr hc (K := K) hkK hrc (by omega) (by omega))) ?_
  rintro _ H4 ⟨⟨u3, rfl, ho6⟩, hx5⟩
  have X7 := Ext.trans X0 hx5
  have X8 := Ext.refl H4
  have hr9 := rd_ofO ho6.rd
  refine AL.w rfl (.inl rfl) (WV.al ze29 rfl) ?_
  rintro _ H11 ⟨b10, rfl, hx12, hn13, hb14⟩
  have o15 := Nat.le_trans X7.bd hn13
  have o16 := Nat.le_trans X8.bd hn13
  have X17 := Ext.trans X7 hx12
  have X18 := Ext.trans X8 hx12
  have X19 := Ext.refl H11
  refine AL.w0 (.inl rfl) (WV.st rfl rfl va29 rfl hb14 (Nat.le_of_ble_eq_true rfl) (one_cons rfl (one_cons rfl (one_cons (sl_one1 (hr9.ext X18).isSl) one_nil)))) ?_
  rintro _ H20 ⟨hx21, hb22⟩
  have X23 := Ext.thru X17 hx21 (fun z_ hz_ => by rw [hz_]; exact o15)
  have X24 := Ext.thru X18 hx21 (fun z_ hz_ => by rw [hz_]; exact o16)
  have hb26 : At W H20 b10 ⟨29, [.int .i64 p, .int .i64 (l.length : Int), u3], 3⟩ := hb22
  refine AL.nx ?_
  refine AW.rs ?_
  refine AL.val rfl (.inl rfl) (HV.mv rfl) ?_
  have X27 := Ext.refl H20
  have y28 := hb26.lt
  have o29 := X23.bd
  have o30 := X24.bd
  have o31 := X27.bd
  refine AL.w rfl (.inl rfl) (WV.call fn71 rfl (specSol_ok p (l.length : Int) (hr9.ext X24) (at_cells hb26 rfl) (hrt.ext X23) hq rfl (turn_rect (by omega) hrc) (by omega) (by rw [turn_len]; omega) htg (by rw [turn_len]; exact htl))) ?_
  rintro _ H33 ⟨⟨v32, rfl, hv35⟩, hx34⟩
  have X36 := Ext.trans X23 hx34
  have X37 := Ext.trans X24 hx34
  have X38 := Ext.trans X27 hx34
  have hb39 := hb26.ext hx34
  have X40 := Ext.refl H33
  refine AL.val rfl (.inl rfl) (HV.ex rfl rfl) ?_
  refine AL.val rfl (.inl rfl) (HV.ex rfl rfl) ?_
  refine AL.val rfl (.inl rfl) (HV.as rfl) ?_
  refine AL.val rfl (.inl rfl) (HV.as rfl) ?_
  refine AL.nx ?_
  refine AW.ret ?_
  refine post_two rfl rfl rfl ?_ (.inr rfl)
  rw [hcs] at *; exact ⟨⟨_, rfl, hv35.okk (fun b hb _ => Nat.le_trans o29 hb)⟩, X36⟩

set_option maxRecDepth 100000 in
theorem transp_ok {v : Value} {l : List (List Int)} {ok : Nat → Prop} (p k : Int) (hr : RdK (kR kI) W H ok v l) {K : Nat} (hkK : k = (K : Int)) (hrc : rect p K l) (hK : K ≤ 40) (hR : l.length ≤ 40) : ACalls Try.prog W 97 #[.agg #[.int .i64 p, .int .i64 k, v]] H (fun r H' => (∃ u, r = .agg #[.int .i64 p, .int .i64 (l.length : Int), u] ∧ OwnD (kO 2 kI) 22 W H' (fun b => H.bd ≤ b) u (turnL l K)) ∧ Ext H H') := by
  refine ACalls.of (args := [.agg #[.int .i64 p, .int .i64 k, v]]) Try.func97 rfl rfl ?_
  have X0 := Ext.refl H
  have hm1 := hr.max
  have hmx := hr.max
  refine AW.rs ?_
  refine AL.w rfl (.inl rfl) (WV.bx rfl rfl) ?_
  rintro _ H3 ⟨b2, rfl, hx4, hn5, hb6⟩
  have o7 := Nat.le_trans X0.bd hn5
  have X8 := Ext.trans X0 hx4
  have X9 := Ext.refl H3
  refine AL.w rfl (.inl rfl) (WV.al ze29 rfl) ?_
  rintro _ H11 ⟨b10, rfl, hx12, hn13, hb14⟩
  have o15 := Nat.le_trans X8.bd hn13
  have o16 := Nat.le_trans X9.bd hn13
  have ne17 : b2 ≠ b10 := by have := hb6.lt; omega
  have X18 := Ext.trans X8 hx12
  have X19 := Ext.trans X9 hx12
  have hb20 := hb6.ext hx12
  have X21 := Ext.refl H11
  refine AL.nx ?_
  refine AW.rs ?_
  refine AL.val rfl (.inl rfl) (HV.fa fl29_0 rfl) ?_
  refine AL.val rfl (.inl rfl) (HV.ld rfl va2 (at_cell hb20 rfl)) ?_
  refine AL.val rfl (.inl rfl) (HV.fa fl29_2 rfl) ?_
  refine AL.val rfl (.inl rfl) (HV.ld rfl va23 (at_cell_add (j := 2) hb20 rfl)) ?_
  refine AL.val rfl (.inl rfl) (HV.len Try.underlying23 rfl hr.isSl) ?_
  refine AL.val rfl (.inl rfl) (HV.bd rfl (bd29_0_1 p (l.length : Int))) ?_
  refine AL.w rfl (.inl rfl) (WV.al ze29 rfl) ?_
  rintro _ H23 ⟨b22, rfl, hx24, hn25, hb26⟩
  have o27 := Nat.le_trans X18.bd hn25
  have o28 := Nat.le_trans X19.bd hn25
  have o29 := Nat.le_trans X21.bd hn25
  have ne30 : b2 ≠ b22 := by have := hb20.lt; omega
  have ne31 : b10 ≠ b22 := by have := hb14.lt; omega
  have X32 := Ext.trans X18 hx24
  have X33 := Ext.trans X19 hx24
  have X34 := Ext.trans X21 hx24
  have hb35 := hb20.ext hx24
  have hb36 := hb14.ext hx24
  have X37 := Ext.refl H23
  refine AL.w0 (.inl rfl) (WV.st rfl rfl va29 rfl hb26 (Nat.le_of_ble_eq_true rfl) (one_cons rfl (one_cons rfl (one_cons (sl_one1 ⟨none, 0, rfl⟩) one_nil)))) ?_
  rintro _ H38 ⟨hx39, hb40⟩
  have X41 := Ext.thru X32 hx39 (fun z_ hz_ => by rw [hz_]; exact o27)
  have X42 := Ext.thru X33 hx39 (fun z_ hz_ => by rw [hz_]; exact o28)
  have X43 := Ext.thru X34 hx39 (fun z_ hz_ => by rw [hz_]; exact o29)
  have hb45 := hb35.but hx39 ne30
  have hb46 := hb36.but hx39 ne31
  have hb47 : At W H38 b22 ⟨29, [.int .i64 p, .int .i64 (l.length : Int), (.slice none 0 0)], 3⟩ := hb40
  refine AL.nx ?_
  refine AW.seq ?_
  refine AW.rs ?_
  refine AL.val rfl (.inl rfl) (HV.fa fl29_1 rfl) ?_
  refine AL.val rfl (.inl rfl) (HV.ld rfl va2 (at_cell_add (j := 1) hb45 rfl)) ?_
  refine AL.val rfl (.inl rfl) (HV.mv rfl) ?_
  refine AL.nx ?_
  refine AW.block ?_
  have X48 := Ext.refl H38
  have y49 := hb45.lt
  have y50 := hb46.lt
  have y51 := hb47.lt
  have o52 := X41.bd
  have o53 := X42.bd
  have o54 := X43.bd
  have o55 := X48.bd
  have ho56 : OwnD (kO 2 kI) 22 W H38 (fun b => H38.bd ≤ b) (.slice none 0 0) ([] : List (List Int)) := OwnD.nil _
  refine AW.loop (σ := Nat × Value) (fun ⟨i, vv⟩ => [(1, .pointer (some ⟨b2, 0, none⟩)), (2, .pointer (some ⟨b10, 0, none⟩)), (3, .pointer (some ⟨b22, 0, none⟩)), (15, .int .i64 k), (16, .int .i64 (i : Int))]) (fun ⟨i, vv⟩ H' => Ext H H' ∧ Ext H3 H' ∧ Ext H11 H' ∧ At W H' b2 ⟨29, [.int .i64 p, .int .i64 k, v], 3⟩ ∧ At W H' b10 ⟨29, [.int .i64 0, .int .i64 0, (.slice none 0 0)], 3⟩ ∧ H38.bd ≤ H'.bd ∧ i ≤ K ∧ At W H' b22 ⟨29, [.int .i64 p, .int .i64 (l.length : Int), vv], 3⟩ ∧ OwnD (kO 2 kI) 22 W H' (fun b => H38.bd ≤ b) vv (turnL l i) ∧ True) (fun ⟨i, vv⟩ => K - i) (0, (.slice none 0 0)) ⟨X41, X42, X43, hb45, hb46, X48.bd, Nat.zero_le _, hb47, ho56, trivial⟩ ⟨rfl, rfl, rfl, rfl, rfl, trivial⟩ ?_
  rintro ⟨i, vv⟩ H58 ⟨X59, X60, X61, hb62, hb63, q64, hi, hbB, hoL, _⟩
  refine AW.rs ?_
  refine AL.val rfl (.inl rfl) (HV.lti rfl rfl) ?_
  refine AL.nx ?_
  refine AW.seq ?_
  refine AW.ifd rfl (fun c65 => ?_) (fun c65 => ?_)
  · -- then
    refine AW.skip ?_
    refine nrm_and ?_
    refine AW.seq ?_
    refine AW.block ?_
    refine AW.rs ?_
    refine AL.val rfl (.inl rfl) (HV.mv rfl) ?_
    refine AL.val rfl (.inl rfl) (HV.as rfl) ?_
    refine AL.nx ?_
    refine AW.rs ?_
    have X66 := Ext.refl H58
    have y67 := hb62.lt
    have y68 := hb63.lt
    have y69 := hbB.lt
    have o70 := X59.bd
    have o71 := X60.bd
    have o72 := X61.bd
    have o73 := X66.bd
    have a74 := hoL.ltb
    have ho75 := hoL.okk (ok' := fun b => H38.bd ≤ b ∧ b < H58.bd) (fun b hb hlt => ⟨hb, hlt⟩)
    refine AL.w rfl (.inl rfl) (WV.bsK (K := kI) (l := ([] : List Int)) (css := []) sl22 rfl rfl (by first | rfl | (simp [Instr.fill, Value.cells, kI, kB, kU, kU8, kS, Kd.sc]; done) | (simp [Instr.fill, Value.cells, kI, kB, kU, kU8, kS, Kd.sc, rng1, rng2, rng3, rng4, kP])) rfl segs_nil) ?_
    rintro v76 H77 ⟨hx78, ho79⟩
    have q80 := Nat.le_trans q64 hx78.bd
    have X81 := Ext.trans X59 hx78
    have X82 := Ext.trans X60 hx78
    have X83 := Ext.trans X61 hx78
    have X84 := Ext.trans X66 hx78
    have ho85 := ho75.ext hx78
    have hb86 := hb62.ext hx78
    have hb87 := hb63.ext hx78
    have hb88 := hbB.ext hx78
    refine AL.val rfl (.inl rfl) (HV.as rfl) ?_
    refine AL.nx ?_
    refine AW.seq ?_
    refine AW.rs ?_
    refine AL.val rfl (.inl rfl) (HV.fa fl29_2 rfl) ?_
    refine AL.val rfl (.inl rfl) (HV.ld rfl va23 (at_cell_add (j := 2) hb86 rfl)) ?_
    refine AL.val rfl (.inl rfl) (HV.len Try.underlying23 rfl hr.isSl) ?_
    refine AL.val rfl (.inl rfl) (HV.mv rfl) ?_
    refine AL.nx ?_
    refine AW.block ?_
    refine AW.loop (σ := Nat × Value) (fun ⟨j, vr⟩ => [(1, .pointer (some ⟨b2, 0, none⟩)), (2, .pointer (some ⟨b10, 0, none⟩)), (3, .pointer (some ⟨b22, 0, none⟩)), (4, .int .i64 (i : Int)), (15, .int .i64 k), (16, .int .i64 (i : Int)), (17, .bool (decide ((i : Int) < k))), (18, .int .i64 (i : Int)), (19, v76), (20, .pointer (some ⟨b2, 2, none⟩)), (21, v), (22, .int .i64 (l.length : Int)), (5, vr), (23, .int .i64 (j : Int))]) (fun ⟨j, vr⟩ H' => Ext H H' ∧ Ext H3 H' ∧ Ext H11 H' ∧ Ext H58 H' ∧ At W H' b2 ⟨29, [.int .i64 p, .int .i64 k, v], 3⟩ ∧ At W H' b10 ⟨29, [.int .i64 0, .int .i64 0, (.slice none 0 0)], 3⟩ ∧ At W H' b22 ⟨29, [.int .i64 p, .int .i64 (l.length : Int), vv], 3⟩ ∧ H38.bd ≤ H'.bd ∧ j ≤ l.length ∧ OwnD (kO 2 kI) 22 W H' (fun b => H38.bd ≤ b ∧ b < H58.bd) vv (turnL l i) ∧ OwnK kI 2 W H' (fun b => H58.bd ≤ b) vr (colT (l.take j) i) ∧ True) (fun ⟨j, vr⟩ => l.length - j) (0, v76) ⟨X81, X82, X83, X84, hb86, hb87, hb88, q80, Nat.zero_le _, ho85, ho79, trivial⟩ ⟨rfl, rfl, rfl, rfl, rfl, rfl, rfl, rfl, rfl, rfl, rfl, rfl, rfl, rfl, trivial⟩ ?_
    rintro ⟨j, vr⟩ H90 ⟨X91, X92, X93, X94, hb95, hb96, hb97, q98, hj, hoG, hoR, _⟩
    refine AW.rs ?_
    refine AL.val rfl (.inl rfl) (HV.lti rfl rfl) ?_
    refine AL.nx ?_
    refine AW.seq ?_
    refine AW.ifd rfl (fun c99 => ?_) (fun c99 => ?_)
    · -- then
      refine AW.skip ?_
      refine nrm_and ?_
      refine AW.seq ?_
      refine AW.block ?_
      refine AW.rs ?_
      obtain ⟨p100, z101, cs102, hz103, hK104, hC105, hP106⟩ := RdK.ix (q := (j : Int)) hr sl23 (by omega) (by omega)
      obtain ⟨v107, rfl, hr108⟩ := hK104
      have hm109 := hr108.max
      refine AL.val rfl (.inl rfl) (hP106 rfl rfl) ?_
      refine AL.val rfl (.inl rfl) (HV.ld rfl va22 (cells_first (hC105.ext X91) rfl)) ?_
      refine AL.val rfl (.inl rfl) (HV.as rfl) ?_
      refine AL.nx ?_
      refine AW.reg ?_
      refine AL.val rfl (.inl rfl) (HV.mv rfl) ?_
      refine AL.val rfl (.inl rfl) (HV.mv rfl) ?_
      refine AL.val rfl (.inl rfl) (HV.mv rfl) ?_
      obtain ⟨p110, z111, cs112, hz113, hK114, hC115, hP116⟩ := RdK.ix (q := (i : Int)) hr108 sl22 (by omega) (by have := rect_at hrc hz103; omega)
      obtain rfl : cs112 = [.int .i64 z111] := hK114
      refine AL.val rfl (.inl rfl) (hP116 rfl rfl) ?_
      refine AL.val rfl (.inl rfl) (HV.ld rfl va2 (cells_first (hC115.ext X91) rfl)) ?_
      have X117 := Ext.refl H90
      have y118 := hb95.lt
      have y119 := hb96.lt
      have y120 := hb97.lt
      have o121 := X91.bd
      have o122 := X92.bd
      have o123 := X93.bd
      have o124 := X94.bd
      have o125 := X117.bd
      have a126 := hoG.ltb
      have a127 := hoR.ltb
      refine AL.w rfl (.inl rfl) (WV.bsK (K := kI) (l := ([z111] : List Int)) (css := [[.int .i64 z111]]) sl22 rfl rfl (by first | rfl | (simp [Instr.fill, Value.cells, kI, kB, kU, kU8, kS, Kd.sc]; done) | (simp [Instr.fill, Value.cells, kI, kB, kU, kU8, kS, Kd.sc, rng1, rng2, rng3, rng4, kP])) rfl (segs_cons rfl segs_nil)) ?_
      rintro v128 H129 ⟨hx130, ho131⟩
      have q132 := Nat.le_trans q98 hx130.bd
      have X133 := Ext.trans X91 hx130
      have X134 := Ext.trans X92 hx130
      have X135 := Ext.trans X93 hx130
      have X136 := Ext.trans X94 hx130
      have X137 := Ext.trans X117 hx130
      have ho138 := hoG.ext hx130
      have ho139 := hoR.ext hx130
      have hb140 := hb95.ext hx130
      have hb141 := hb96.ext hx130
      have hb142 := hb97.ext hx130
      have X144 := Ext.refl H129
      refine AL.w rfl (.inl rfl) (WV.apk sl22 rfl rfl ho139 ho131.rd (by simp only [colT, List.length_map, List.length_take, List.length_singleton]; omega) (by simp only [colT, List.length_map, List.length_take, List.length_singleton]; omega) (fun b hb _ e => Nat.lt_irrefl _ (Nat.lt_of_lt_of_le (a127 b e) hb))) ?_
      rintro v145 H146 ⟨hx147, ho148, hb149⟩
      have ho150 := ho148.narrow (ok' := fun b => H58.bd ≤ b) kI_flat (fun b q => (hb149 b q).elim (fun e => (ho139.blk b e).1) (fun e => Nat.le_trans X136.bd e))
      have q151 := Nat.le_trans q132 hx147.bd
      have X152 := Ext.thru X133 hx147 (fun b hb => Nat.le_trans o70 (ho139.blk b hb).1)
      have X153 := Ext.thru X134 hx147 (fun b hb => Nat.le_trans o71 (ho139.blk b hb).1)
      have X154 := Ext.thru X135 hx147 (fun b hb => Nat.le_trans o72 (ho139.blk b hb).1)
      have X155 := Ext.thru X136 hx147 (fun b hb => Nat.le_trans o73 (ho139.blk b hb).1)
      have q157 := Nat.le_trans X137.bd hx147.bd
      have q159 := Nat.le_trans X144.bd hx147.bd
      have ho160 := ho138.but hx147 (fun b hb _ e => by have h1 : H38.bd ≤ b ∧ b < H58.bd := hb; have h2 : H58.bd ≤ b := (ho139.blk b e).1; omega) (fun b hb => (ho139.blk b hb).2.2)
      have hb162 := hb140.but hx147 (fun e => by have q : H58.bd ≤ _ := (ho139.blk _ e).1; omega)
      have hb163 := hb141.but hx147 (fun e => by have q : H58.bd ≤ _ := (ho139.blk _ e).1; omega)
      have hb164 := hb142.but hx147 (fun e => by have q : H58.bd ≤ _ := (ho139.blk _ e).1; omega)
      refine AL.val rfl (.inl rfl) (HV.as rfl) ?_
      refine AL.nil ?_
      refine nrm_blk (nrm_and ?_)
      refine AW.reg ?_
      refine AL.val rfl (.inl rfl) (HV.add rfl rfl (by omega)) ?_
      refine AL.val rfl (.inl rfl) (HV.mv rfl) ?_
      refine AL.nil ?_
      refine nrm_and ?_
      exact ⟨(j + 1, v145), ⟨X152, X153, X154, X155, hb162, hb163, hb164, q151, by omega, ho160, by have q := colT_snoc (z := []) hz103 hz113; rw [List.nil_append, List.nil_append] at q; rw [q]; exact ho150, trivial⟩, by first | omega | (dsimp only; omega), ⟨rfl, rfl, rfl, rfl, rfl, rfl, rfl, rfl, rfl, rfl, rfl, rfl, rfl, rfl, trivial⟩⟩
    · -- else
      refine AW.exit ?_
      refine ex_and (ex_and (ex_blk ?_))
      refine nrm_and ?_
      refine AW.reg ?_
      refine AL.val rfl (.inl rfl) (HV.fa fl29_2 rfl) ?_
      refine AL.val rfl (.inl rfl) (HV.ld rfl va23 (at_cell_add (j := 2) hb97 rfl)) ?_
      refine AL.val rfl (.inl rfl) (HV.mv rfl) ?_
      have X165 := Ext.refl H90
      have y166 := hb95.lt
      have y167 := hb96.lt
      have y168 := hb97.lt
      have o169 := X91.bd
      have o170 := X92.bd
      have o171 := X93.bd
      have o172 := X94.bd
      have o173 := X165.bd
      have a174 := hoG.ltb
      have a175 := hoR.ltb
      have hc180 : vr.cells = #[vr] := by obtain ⟨A, c, e⟩ := hoR.isSl; rw [e]; rfl
      refine AL.w rfl (.inl rfl) (WV.bsO (okx := fun b => H58.bd ≤ b) (K := (kO 2 kI)) (l := ([(colT (l.take j) i)] : List (List Int))) (css := [[vr]]) sl23 rfl rfl (by simp [Instr.fill, hc180, kO, rng1]) rfl (segs_cons ⟨_, rfl, hoR⟩ segs_nil)) ?_
      rintro v176 H177 ⟨hx178, ho179⟩
      have q182 := Nat.le_trans q98 hx178.bd
      have X183 := Ext.trans X91 hx178
      have X184 := Ext.trans X92 hx178
      have X185 := Ext.trans X93 hx178
      have X186 := Ext.trans X94 hx178
      have X187 := Ext.trans X165 hx178
      have ho188 := hoG.ext hx178
      have ho189 := hoR.ext hx178
      have hb190 := hb95.ext hx178
      have hb191 := hb96.ext hx178
      have hb192 := hb97.ext hx178
      have ho181 := ho179.okk (ok' := fun b => H58.bd ≤ b) (fun b hb _ => hb.elim id (fun e => Nat.le_trans X94.bd e))
      have X194 := Ext.refl H177
      refine AL.w rfl (.inl rfl) (WV.apD (ok := fun b => H38.bd ≤ b) (B := H58.bd) sl23 rfl rfl ho188 ho181.rd X186.bd (by rw [turn_len]; first | omega | (simp; omega)) (by rw [turn_len]; first | omega | (simp; omega))) ?_
      rintro v195 H196 ⟨hx197, ho198, hb199⟩
      have ho200 := ho198.okk (ok' := fun b => H38.bd ≤ b) (fun b hb _ => hb.elim id (fun e => Nat.le_trans q64 e))
      have q201 := Nat.le_trans q182 hx197.bd
      have X202 := Ext.thru X183 hx197 (fun b hb => Nat.le_trans o52 (ho188.blk b hb).1.1)
      have X203 := Ext.thru X184 hx197 (fun b hb => Nat.le_trans o53 (ho188.blk b hb).1.1)
      have X204 := Ext.thru X185 hx197 (fun b hb => Nat.le_trans o54 (ho188.blk b hb).1.1)
      have q206 := Nat.le_trans X186.bd hx197.bd
      have q208 := Nat.le_trans X187.bd hx197.bd
      have q210 := Nat.le_trans X194.bd hx197.bd
      have hb211 := hb190.but hx197 (fun e => by have q : H38.bd ≤ _ := (ho188.blk _ e).1.1; omega)
      have hb212 := hb191.but hx197 (fun e => by have q : H38.bd ≤ _ := (ho188.blk _ e).1.1; omega)
      have hb213 := hb192.but hx197 (fun e => by have q : H38.bd ≤ _ := (ho188.blk _ e).1.1; omega)
      refine AL.val rfl (.inl rfl) (HV.fa fl29_2 rfl) ?_
      refine AL.w0 (.inl rfl) (WV.st rfl rfl va23 (sl_size (rd_ofO ho200.rd).isSl) hb213 (Nat.le_of_ble_eq_true rfl) (sl_one (rd_ofO ho200.rd).isSl)) ?_
      rintro _ H214 ⟨hx215, hb216⟩
      rw [sl_cells (rd_ofO ho200.rd).isSl] at hb216
      have q217 := Nat.le_trans q201 hx215.bd
      have q218 := Nat.le_trans q206 hx215.bd
      have q219 := Nat.le_trans q208 hx215.bd
      have q220 := Nat.le_trans q210 hx215.bd
      have X221 := Ext.thru X202 hx215 (fun z_ hz_ => by rw [hz_]; exact o27)
      have X222 := Ext.thru X203 hx215 (fun z_ hz_ => by rw [hz_]; exact o28)
      have X223 := Ext.thru X204 hx215 (fun z_ hz_ => by rw [hz_]; exact o29)
      have ho224 := ho200.but hx215 (fun b hb _ e => by have hb' : H38.bd ≤ b := hb; have e' : b = b22 := e; omega) (fun z_ hz_ => by rw [hz_]; exact hb213.w)
      have hb225 := hb211.but hx215 ne30
      have hb226 := hb212.but hx215 ne31
      have hb227 : At W H214 b22 ⟨29, [.int .i64 p, .int .i64 (l.length : Int), v195], 3⟩ := hb216
      refine AL.nil ?_
      refine nrm_blk (nrm_and ?_)
      refine AW.reg ?_
      refine AL.val rfl (.inl rfl) (HV.add rfl rfl (by omega)) ?_
      refine AL.val rfl (.inl rfl) (HV.mv rfl) ?_
      refine AL.nil ?_
      refine nrm_and ?_
      exact ⟨(i + 1, v195), ⟨X221, X222, X223, hb225, hb226, q217, by omega, hb227, by have hj2 : j = l.length := (by omega); rw [turn_succ, show colT l i = colT (l.take j) i by rw [hj2, List.take_length]]; exact ho224, trivial⟩, by first | omega | (dsimp only; omega), ⟨rfl, rfl, rfl, rfl, rfl, trivial⟩⟩
  · -- else
    refine AW.exit ?_
    refine ex_and (ex_and (ex_blk ?_))
    refine nrm_and ?_
    refine AW.rs ?_
    refine AL.val rfl (.inl rfl) (HV.lda (cs := [.int .i64 p, .int .i64 (l.length : Int), vv]) rfl va29 (at_cells hbB rfl)) ?_
    refine AL.w0 (.inl rfl) (WV.st rfl rfl va29 rfl hb63 (Nat.le_of_ble_eq_true rfl) (one_cons rfl (one_cons rfl (one_cons (sl_one1 (rd_ofO hoL.rd).isSl) one_nil)))) ?_
    rintro _ H228 ⟨hx229, hb230⟩
    have q231 := Nat.le_trans q64 hx229.bd
    have X232 := Ext.thru X59 hx229 (fun z_ hz_ => by rw [hz_]; exact o15)
    have X233 := Ext.thru X60 hx229 (fun z_ hz_ => by rw [hz_]; exact o16)
    have q235 := Nat.le_trans X61.bd hx229.bd
    have ho236 := hoL.but hx229 (fun b hb _ e => by have hb' : H38.bd ≤ b := hb; have e' : b = b10 := e; omega) (fun z_ hz_ => by rw [hz_]; exact hb63.w)
    have hb237 := hb62.but hx229 ne17
    have hb238 := hbB.but hx229 (fun e => ne31 e.symm)
    have hb239 : At W H228 b10 ⟨29, [.int .i64 p, .int .i64 (l.length : Int), vv], 3⟩ := hb230
    refine AL.nx ?_
    refine AW.ret ?_
    refine post_cell rfl rfl va29 hb239 ?_ (.inr rfl)
    exact ⟨⟨_, rfl, by rw [show K = i by omega]; exact ho236.okk (fun b hb _ => Nat.le_trans o52 hb)⟩, X232⟩

set_option maxRecDepth 100000 in
theorem fresh_ok {v : Value} {l : List (List Int)} {ok : Nat → Prop} (p k : Int) (hr : RdK (kR kI) W H ok v l) {K : Nat} (hq : isPr p = true) (hkK : k = (K : Int)) (hrc : rect p K l) (hK : K ≤ 40) (hR : l.length ≤ 40) (hK0 : K ≤ 30) (hR3 : l.length ≤ 30) : ACalls Try.prog W 95 #[.agg #[.int .i64 p, .int .i64 k, v]] H (fun r H' => Ext H H' ∧ OwnK kI 2 W H' (fun b => H.bd ≤ b) r (freshL p l l.length)) := by
  refine ACalls.of (args := [.agg #[.int .i64 p, .int .i64 k, v]]) Try.func95 rfl rfl ?_
  have X0 := Ext.refl H
  have hm1 := hr.max
  have hp := isPr_bd hq
  have hmx := hr.max
  refine AW.rs ?_
  refine AL.w rfl (.inl rfl) (WV.bx rfl rfl) ?_
  rintro _ H3 ⟨b2, rfl, hx4, hn5, hb6⟩
  have o7 := Nat.le_trans X0.bd hn5
  have X8 := Ext.trans X0 hx4
  have X9 := Ext.refl H3
  refine AL.val rfl (.inl rfl) (HV.as rfl) ?_
  refine AL.nx ?_
  refine AW.rs ?_
  have y10 := hb6.lt
  have o11 := X8.bd
  have o12 := X9.bd
  refine AL.w rfl (.inl rfl) (WV.bsK (K := kI) (l := ([] : List Int)) (css := []) sl22 rfl rfl (by first | rfl | (simp [Instr.fill, Value.cells, kI, kB, kU, kU8, kS, Kd.sc]; done) | (simp [Instr.fill, Value.cells, kI, kB, kU, kU8, kS, Kd.sc, rng1, rng2, rng3, rng4, kP])) rfl segs_nil) ?_
  rintro v13 H14 ⟨hx15, ho16⟩
  have X17 := Ext.trans X8 hx15
  have X18 := Ext.trans X9 hx15
  have hb19 := hb6.ext hx15
  refine AL.val rfl (.inl rfl) (HV.as rfl) ?_
  refine AL.nx ?_
  refine AW.seq ?_
  refine AW.rs ?_
  refine AL.val rfl (.inl rfl) (HV.fa fl29_2 rfl) ?_
  refine AL.val rfl (.inl rfl) (HV.ld rfl va23 (at_cell_add (j := 2) hb19 rfl)) ?_
  refine AL.val rfl (.inl rfl) (HV.len Try.underlying23 rfl hr.isSl) ?_
  refine AL.val rfl (.inl rfl) (HV.mv rfl) ?_
  refine AL.nx ?_
  refine AW.block ?_
  refine AW.loop (σ := Nat × Value) (fun ⟨i, vv⟩ => [(1, .pointer (some ⟨b2, 0, none⟩)), (2, (.slice none 0 0)), (11, v), (12, .int .i64 (l.length : Int)), (3, vv), (13, .int .i64 (i : Int))]) (fun ⟨i, vv⟩ H' => Ext H H' ∧ Ext H3 H' ∧ At W H' b2 ⟨29, [.int .i64 p, .int .i64 k, v], 3⟩ ∧ i ≤ l.length ∧ OwnK kI 2 W H' (fun b => H3.bd ≤ b) vv (freshL p l i) ∧ True) (fun ⟨i, vv⟩ => l.length - i) (0, v13) ⟨X17, X18, hb19, Nat.zero_le _, ho16, trivial⟩ ⟨rfl, rfl, rfl, rfl, rfl, rfl, trivial⟩ ?_
  rintro ⟨i, vv⟩ H21 ⟨X22, X23, hb24, hi, hoL, _⟩
  have hfl := fresh_len p l i
  refine AW.rs ?_
  refine AL.val rfl (.inl rfl) (HV.lti rfl rfl) ?_
  refine AL.nx ?_
  refine AW.seq ?_
  refine AW.ifd rfl (fun c25 => ?_) (fun c25 => ?_)
  · -- then
    refine AW.skip ?_
    refine nrm_and ?_
    refine AW.seq ?_
    refine AW.block ?_
    refine AW.rs ?_
    refine AL.val rfl (.inl rfl) (HV.mv rfl) ?_
    obtain ⟨p26, z27, cs28, hz29, hK30, hC31, hP32⟩ := RdK.ix (q := (i : Int)) hr sl23 (by omega) (by omega)
    obtain ⟨v33, rfl, hr34⟩ := hK30
    have hm35 := hr34.max
    refine AL.val rfl (.inl rfl) (hP32 rfl rfl) ?_
    refine AL.val rfl (.inl rfl) (HV.ld rfl va22 (cells_first (hC31.ext X22) rfl)) ?_
    refine AL.val rfl (.inl rfl) (HV.as rfl) ?_
    refine AL.val rfl (.inl rfl) (HV.as rfl) ?_
    refine AL.nx ?_
    refine AW.seq ?_
    refine AW.draw' [0, 1, 0, 4, 0, 16, 0, 112, 255, 0, 1023] mixed (by rfl) ?_
    refine Dr.read 0 _ 18 _ rfl rfl rfl rfl rfl (RV.of (by intro _ _ h; cases h) (.inl rfl) (fun _ xd => HV.fa fl29_0 rfl)) ?_
    refine Dr.read 1 _ 19 _ rfl rfl rfl rfl rfl (RV.of (by intro _ _ h; cases h) (.inl rfl) (fun _ xd => HV.ld rfl va2 (rdc_ext xd (at_cell hb24 rfl)))) ?_
    refine Dr.read 2 _ 20 _ rfl rfl rfl rfl rfl (RV.of (by intro _ _ h; cases h) (.inl rfl) (fun _ xd => HV.fa fl29_1 rfl)) ?_
    refine Dr.read 3 _ 21 _ rfl rfl rfl rfl rfl (RV.of (by intro _ _ h; cases h) (.inl rfl) (fun _ xd => HV.ld rfl va2 (rdc_ext xd (at_cell_add (j := 1) hb24 rfl)))) ?_
    refine Dr.read 4 _ 22 _ rfl rfl rfl rfl rfl (RV.of (by intro _ _ h; cases h) (.inl rfl) (fun _ xd => HV.fa fl29_2 rfl)) ?_
    refine Dr.read 5 _ 23 _ rfl rfl rfl rfl rfl (RV.of (by intro _ _ h; cases h) (.inl rfl) (fun _ xd => HV.ld rfl va23 (rdc_ext xd (at_cell_add (j := 2) hb24 rfl)))) ?_
    refine Dr.read 6 _ 24 _ rfl rfl rfl rfl rfl (RV.of (by intro _ _ h; cases h) (.inl rfl) (fun _ xd => HV.mv rfl)) ?_
    have X39 := Ext.refl H21
    obtain ⟨v36, hr37, hP38⟩ := RdK.cutH (q := (i : Int)) (hr.ext X22) sl23 (by omega) (by omega)
    refine Dr.read 7 _ 25 _ rfl rfl rfl rfl rfl (RV.of (by intro _ _ h; cases h) (.inl rfl) (fun _ xd => hP38 rfl rfl)) ?_
    refine Dr.read 8 _ 26 _ rfl rfl rfl rfl rfl (RV.of (by intro _ _ h; cases h) (.inl rfl) (fun _ xd => HV.bd rfl (bd29_0_1_2 p k hr37.isSl))) ?_
    have ho40 := hoL.okk (ok' := fun b => H3.bd ≤ b ∧ b < H21.bd) (fun b hb hlt => ⟨hb, hlt⟩)
    refine Dr.eff 9 _ _ rfl (by intro d h; cases h; exact ⟨rfl, rfl⟩) rfl rfl rfl (EC.of (by intro _ _ h; cases h) (.inl rfl) (WV.al ze29 rfl)) (fun v H' h => .inl (h.choose_spec.2.1)) ?_
    rintro _ H42 ⟨b41, rfl, hx43, hn44, hb45⟩
    have o46 := Nat.le_trans X22.bd hn44
    have o47 := Nat.le_trans X23.bd hn44
    have o48 := Nat.le_trans X39.bd hn44
    have ne49 : b2 ≠ b41 := by have := hb24.lt; omega
    have X50 := Ext.trans X22 hx43
    have X51 := Ext.trans X23 hx43
    have X52 := Ext.trans X39 hx43
    have ho53 := ho40.ext hx43
    have hb54 := hb24.ext hx43
    have X55 := Ext.refl H42
    refine Dr.eff 10 _ _ rfl (by intro d h; cases h) rfl rfl rfl (EC.of (by intro _ _ h; cases h) (.inl rfl) (WV.st rfl rfl va29 rfl hb45 (Nat.le_of_ble_eq_true rfl) (one_cons rfl (one_cons rfl (one_cons (sl_one1 (hr37.ext X52).isSl) one_nil))))) (fun v H' h => .inr (.inl rfl)) ?_
    rintro _ H56 ⟨hx57, hb58⟩
    have X59 := Ext.thru X50 hx57 (fun z_ hz_ => by rw [hz_]; exact o46)
    have X60 := Ext.thru X51 hx57 (fun z_ hz_ => by rw [hz_]; exact o47)
    have X61 := Ext.thru X52 hx57 (fun z_ hz_ => by rw [hz_]; exact o48)
    have q63 := Nat.le_trans X55.bd hx57.bd
    have ho64 := ho53.but hx57 (fun b hb _ e => by have hb' : H3.bd ≤ b ∧ b < H21.bd := hb; have e' : b = b41 := e; omega) (fun z_ hz_ => by rw [hz_]; exact hb45.w)
    have hb65 := hb54.but hx57 ne49
    have hb66 : At W H56 b41 ⟨29, [.int .i64 p, .int .i64 k, v36], 3⟩ := hb58
    refine Dr.fin rfl ?_
    refine nrm_and ?_
    refine AW.rs ?_
    have ho67 := ho64.okk (ok' := fun b => H3.bd ≤ b) (fun b hb _ => hb.1)
    refine AL.val rfl (.inl rfl) (HV.lda (cs := [.int .i64 p, .int .i64 k, v36]) rfl va29 (at_cells hb66 rfl)) ?_
    refine AL.val rfl (.inl rfl) (HV.mv rfl) ?_
    have X68 := Ext.refl H56
    have y69 := hb65.lt
    have y70 := hb66.lt
    have o71 := X59.bd
    have o72 := X60.bd
    have o73 := X61.bd
    have o74 := X68.bd
    have a75 := ho67.ltb
    refine AL.w rfl (.inl rfl) (WV.call fn82 rfl (comb_ok p k (hr37.ext X61) (hr34.ext X59) (K := K) hq hkK (rect_take hrc i) hK0 (by rw [List.length_take]; omega) (rect_at hrc hz29).2 (rect_at hrc hz29).1)) ?_
    rintro _ H77 ⟨⟨u76, rfl, hv79⟩, hx78⟩
    have q80 := Nat.le_trans q63 hx78.bd
    have X81 := Ext.trans X59 hx78
    have X82 := Ext.trans X60 hx78
    have X83 := Ext.trans X61 hx78
    have X84 := Ext.trans X68 hx78
    have ho85 := ho67.ext hx78
    have hb86 := hb65.ext hx78
    have hb87 := hb66.ext hx78
    have X88 := Ext.refl H77
    have hr89 := hv79.rd
    refine AL.val rfl (.inl rfl) (HV.mv rfl) ?_
    refine AL.val rfl (.inl rfl) (HV.ex rfl rfl) ?_
    refine AL.val rfl (.inl rfl) (HV.ex rfl rfl) ?_
    refine AL.val rfl (.inl rfl) (HV.as rfl) ?_
    refine AL.val rfl (.inl rfl) (HV.as rfl) ?_
    refine AL.nx ?_
    refine AW.rs ?_
    refine AL.val rfl (.inl rfl) (HV.mv rfl) ?_
    refine AL.val rfl (.inl rfl) (HV.not rfl) ?_
    refine AL.nx ?_
    refine AW.cond rfl (fun c90 => ?_) (fun c90 => ?_)
    · -- then
      refine AW.reg ?_
      refine AL.val rfl (.inl rfl) (HV.mv rfl) ?_
      refine AL.val rfl (.inl rfl) (HV.mv rfl) ?_
      have y91 := hb86.lt
      have y92 := hb87.lt
      have o93 := X81.bd
      have o94 := X82.bd
      have o95 := X83.bd
      have o96 := X84.bd
      have o97 := X88.bd
      have a98 := ho85.ltb
      refine AL.w rfl (.inl rfl) (WV.bsK (K := kI) (l := ([(i : Int)] : List Int)) (css := [[.int .i64 (i : Int)]]) sl22 rfl rfl (by first | rfl | (simp [Instr.fill, Value.cells, kI, kB, kU, kU8, kS, Kd.sc]; done) | (simp [Instr.fill, Value.cells, kI, kB, kU, kU8, kS, Kd.sc, rng1, rng2, rng3, rng4, kP])) rfl (segs_cons rfl segs_nil)) ?_
      rintro v99 H100 ⟨hx101, ho102⟩
      have q103 := Nat.le_trans q80 hx101.bd
      have X104 := Ext.trans X81 hx101
      have X105 := Ext.trans X82 hx101
      have X106 := Ext.trans X83 hx101
      have X107 := Ext.trans X84 hx101
      have X108 := Ext.trans X88 hx101
      have ho109 := ho85.ext hx101
      have hb110 := hb86.ext hx101
      have hb111 := hb87.ext hx101
      have X113 := Ext.refl H100
      refine AL.w rfl (.inl rfl) (WV.apk sl22 rfl rfl ho109 ho102.rd (by simp only [List.length_singleton]; omega) (by simp only [List.length_singleton]; omega) (fun b hb _ e => Nat.lt_irrefl _ (Nat.lt_of_lt_of_le (a98 b e) hb))) ?_
      rintro v114 H115 ⟨hx116, ho117, hb118⟩
      have ho119 := ho117.narrow (ok' := fun b => H3.bd ≤ b) kI_flat (fun b q => (hb118 b q).elim (fun e => (ho109.blk b e).1) (fun e => Nat.le_trans X105.bd e))
      have q120 := Nat.le_trans q103 hx116.bd
      have X121 := Ext.thru X104 hx116 (fun b hb => Nat.le_trans o11 (ho109.blk b hb).1)
      have X122 := Ext.thru X105 hx116 (fun b hb => Nat.le_trans o12 (ho109.blk b hb).1)
      have q124 := Nat.le_trans X106.bd hx116.bd
      have q126 := Nat.le_trans X107.bd hx116.bd
      have q128 := Nat.le_trans X108.bd hx116.bd
      have q130 := Nat.le_trans X113.bd hx116.bd
      have hb132 := hb110.but hx116 (fun e => by have q : H3.bd ≤ _ := (ho109.blk _ e).1; omega)
      refine AL.val rfl (.inl rfl) (HV.as rfl) ?_
      refine AL.nil ?_
      refine nrm_blk (nrm_and ?_)
      refine AW.reg ?_
      refine AL.val rfl (.inl rfl) (HV.add rfl rfl (by omega)) ?_
      refine AL.val rfl (.inl rfl) (HV.mv rfl) ?_
      refine AL.nil ?_
      refine nrm_and ?_
      exact ⟨(i + 1, v114), ⟨X121, X122, hb132, by omega, by rw [fresh_yes (z := z27) hz29 (bnot_t c90)]; exact ho119, trivial⟩, by first | omega | (dsimp only; omega), ⟨rfl, rfl, rfl, rfl, rfl, rfl, trivial⟩⟩
    · -- else
      refine AW.skip ?_
      refine nrm_blk (nrm_and ?_)
      refine AW.reg ?_
      refine AL.val rfl (.inl rfl) (HV.add rfl rfl (by omega)) ?_
      refine AL.val rfl (.inl rfl) (HV.mv rfl) ?_
      refine AL.nil ?_
      refine nrm_and ?_
      exact ⟨(i + 1, vv), ⟨X81, X82, hb86, by omega, by rw [fresh_no (z := z27) hz29 (bnot_f c90)]; exact ho85, trivial⟩, by first | omega | (dsimp only; omega), ⟨rfl, rfl, rfl, rfl, rfl, rfl, trivial⟩⟩
  · -- else
    refine AW.exit ?_
    refine ex_and (ex_and (ex_blk ?_))
    refine nrm_and ?_
    refine AW.rs ?_
    refine AL.val rfl (.inl rfl) (HV.mv rfl) ?_
    refine AL.val rfl (.inl rfl) (HV.as rfl) ?_
    refine AL.nx ?_
    refine AW.ret ?_
    refine post_one rfl rfl ?_ (.inr rfl)
    exact ⟨X22, by rw [show l.length = i by omega]; exact hoL.okk (fun b hb _ => Nat.le_trans o11 hb)⟩
end Go.Proofs.Yticobjbjejpomaa.VC
