/- Walks. -/
import Derived.Test.YticobjbjejpomaaZF5
set_option linter.unusedVariables false
set_option linter.unusedSimpArgs false
namespace Go.Proofs.Yticobjbjejpomaa.VC
open Go Go.RowKit
theorem combI_in {p : Int} {K : Nat} {l : List (List Int)} {tg : List Int} (hq : isPr p = true) (h : rect p K l) (ht : elems p tg) (htl : tg.length = K) : elems p (combI p l tg).1 ∧ ((combI p l tg).2 = true → (combI p l tg).1.length = l.length) ∧ (combI p l tg).1.length ≤ l.length := by
  obtain ⟨h1, h2⟩ := combI_end hq h ht htl
  cases e : (combI p l tg).2 with
  | true => exact ⟨(h1 e).2.1, fun _ => (h1 e).1, Nat.le_of_eq (h1 e).1⟩
  | false => rw [(h2 e).1]; exact ⟨fun j hj => absurd hj (Nat.not_lt_zero _), fun q => absurd q (by simp), Nat.zero_le _⟩
theorem unitL_len (m i : Nat) : (unitL m i).length = m := by simp [unitL]
def openX (p k : Int) (o : List Int) (l : List (List Int)) (g : List Int) : List Int × Bool := combI p (partL l (idxG o g)) (unitL k.toNat 0)
noncomputable def soB (n : Int) (o : List Int) (p k : Int) (l : List (List Int)) (g : List Int) : Bool := if askC n o p k l g = 0 then (openX p k o l g).2 else false
noncomputable def oeC (n : Int) (o : List Int) (p k : Int) (l : List (List Int)) (g : List Int) : Int := if askC n o p k l g = 0 then if (openX p k o l g).2 = true then 0 else 6 else askC n o p k l g
noncomputable def oeL (n : Int) (o : List Int) (p k : Int) (l : List (List Int)) (g : List Int) : List Int := if askC n o p k l g = 0 then if (openX p k o l g).2 = true then (openX p k o l g).1 else [] else []
def dotI (a b : List Int) (j : Nat) : Int := (List.range j).foldl (fun s i => s + a.getD i 0 * b.getD i 0) 0
theorem dotI_succ (a b : List Int) (j : Nat) : dotI a b (j + 1) = dotI a b j + a.getD j 0 * b.getD j 0 := by
  unfold dotI
  rw [List.range_succ, List.foldl_append]; rfl
theorem dotI_in {p : Int} {a b : List Int} (hp : 2 ≤ p ∧ p ≤ 31) (ha : elems p a) (hb : elems p b) : ∀ j : Nat, 0 ≤ dotI a b j ∧ dotI a b j ≤ 961 * j
  | 0 => by simp [dotI]
  | j + 1 => by
    have h := dotI_in hp ha hb j
    have h1 := getD_in ha (show 0 < p by omega) j
    have h2 := getD_in hb (show 0 < p by omega) j
    have h3 := mul31 (a := a.getD j 0) (b := b.getD j 0) (by omega) (by omega) (by omega) (by omega)
    rw [dotI_succ]; omega
noncomputable def rbC (n : Int) (o : List Int) (p k : Int) (l : List (List Int)) (g h : List Int) : Int := if withC n o p k l g h = 0 then if (openX p k o l g).2 = true then if conB n o p k l g h = true then 0 else 4 else 6 else withC n o p k l g h
noncomputable def rbV (n : Int) (o : List Int) (p k : Int) (l : List (List Int)) (g h : List Int) : Int := if withC n o p k l g h = 0 ∧ (openX p k o l g).2 = true ∧ conB n o p k l g h = true then dotI (openX p k o l g).1 h (openX p k o l g).1.length % p else 0
theorem ScF.opn {n : Int} {o : List Int} {p k : Int} {l : List (List Int)} (h : ScF n o p k l) (g : List Int) : elems p (openX p k o l g).1 ∧ ((openX p k o l g).2 = true → (openX p k o l g).1.length = (idxG o g).length) ∧ (openX p k o l g).1.length ≤ 20 := by
  obtain ⟨h1, h2, _⟩ := h.part g
  have h3 := combI_in h.q h1 (unitL_in h.pb.1 k.toNat 0) (unitL_len _ _)
  rw [partL_len] at h3
  exact ⟨h3.1, h3.2.1, by have := h3.2.2; unfold openX; omega⟩
theorem bnot_f {b : Bool} (h : (!b) = false) : b = true := by cases b <;> simp_all
theorem bnot_t {b : Bool} (h : (!b) = true) : b = false := by cases b <;> simp_all
variable {W : World} {H : Hp}

set_option maxRecDepth 100000 in
theorem unit_ok (k : Int) (hk : 1 ≤ k ∧ k ≤ 40) : ACalls Try.prog W 83 #[.int .i64 k] H (fun r H' => Ext H H' ∧ OwnK kI 2 W H' (fun b => H.bd ≤ b) r (unitL k.toNat 0)) := by
  refine ACalls.of (args := [.int .i64 k]) Try.func83 rfl rfl ?_
  have X0 := Ext.refl H
  refine AW.rs ?_
  refine AL.val rfl (.inl rfl) (HV.as rfl) ?_
  refine AL.nx ?_
  refine AW.rs ?_
  refine AL.val rfl (.inl rfl) (HV.mv rfl) ?_
  have o1 := X0.bd
  refine AL.w rfl (.inl rfl) (WV.mkK (K := kI) (0 : Int) (fun _ _ _ => rfl) sl22 rfl rfl rfl (by omega) (by omega) (by omega)) ?_
  rintro v2 H3 ⟨hx4, ho5⟩
  have X6 := Ext.trans X0 hx4
  refine AL.val rfl (.inl rfl) (HV.as rfl) ?_
  refine AL.nx ?_
  refine AW.rs ?_
  refine AL.val rfl (.inl rfl) (HV.mv rfl) ?_
  obtain ⟨g8, z9, cs10, hz11, hK12, hC13, hg14, hP15⟩ := OwnK.ix (q := 0) ho5 sl22 (by decide) (by simp; omega)
  have X16 := Ext.refl H3
  obtain rfl : cs10 = [.int .i64 z9] := hK12
  refine AL.val rfl (.inl rfl) (hP15 rfl rfl) ?_
  refine AL.w0 (.inl rfl) (WV.stK (okx := fun _ => False) (x' := 1) ho5 hg14 rfl rfl va2 (by simp; omega) rfl (fun _ h => h.elim)) ?_
  rintro _ H17 ⟨hx18, ho19⟩
  have X20 := Ext.thru X6 hx18 (fun b hb => Nat.le_trans o1 (ho5.blk b hb).1)
  have ho22 := ho19.okk (ok' := fun b => H.bd ≤ b) (fun b hb _ => hb.elim id False.elim)
  refine AL.nx ?_
  refine AW.rs ?_
  refine AL.val rfl (.inl rfl) (HV.mv rfl) ?_
  refine AL.val rfl (.inl rfl) (HV.as rfl) ?_
  refine AL.nx ?_
  refine AW.ret ?_
  refine post_one rfl rfl ?_ (.inr rfl)
  exact ⟨X20, ho22.okk (fun b hb _ => Nat.le_trans o1 hb)⟩

set_option maxRecDepth 100000 in
theorem opens_ok {vo v : Value} {o : List Int} {l : List (List Int)} {oko ok : Nat → Prop} (n p k : Int) (ho : RdK kI W H oko vo o) (hr : RdK (kR kI) W H ok v l) {g : List Int} (hok : okSc n o p k l) (hg : Ris 0 (n - 1) g) : ACalls Try.prog W 79 #[.agg #[.int .i64 n, vo, .int .i64 p, .int .i64 k, v], .int .u64 (crowd g)] H (fun r H' => r = .bool (openX p k o l g).2 ∧ Ext H H') := by
  refine ACalls.of (args := [.agg #[.int .i64 n, vo, .int .i64 p, .int .i64 k, v], .int .u64 (crowd g)]) Try.func79 rfl rfl ?_
  have X0 := Ext.refl H
  have hm1 := ho.max
  have hm2 := hr.max
  have hF := okSc_f hok
  have hp := hF.pb
  have hk1 := hF.k1
  have hk0 := hF.k0
  have hF1 := hF.R
  have hF2 := hF.ol
  obtain ⟨hP1, hP2, hP3⟩ := hF.part g
  refine AW.rs ?_
  refine AL.w rfl (.inl rfl) (WV.bx rfl rfl) ?_
  rintro _ H4 ⟨b3, rfl, hx5, hn6, hb7⟩
  have o8 := Nat.le_trans X0.bd hn6
  have X9 := Ext.trans X0 hx5
  have X10 := Ext.refl H4
  refine AL.val rfl (.inl rfl) (HV.as rfl) ?_
  refine AL.nx ?_
  refine AW.seq ?_
  refine AW.draw' [0, 0, 3, 0, 8, 24, 63, 127, 255, 511, 511, 1023, 4095] mixed (by rfl) ?_
  refine Dr.read 0 _ 8 _ rfl rfl rfl rfl rfl (RV.of (by intro _ _ h; cases h) (.inl rfl) (fun _ xd => HV.lda (cs := [.int .i64 n, vo, .int .i64 p, .int .i64 k, v]) rfl va31 (fun j u hu => rdc_ext xd ((at_cells hb7 rfl) j u hu)))) ?_
  refine Dr.read 1 _ 9 _ rfl rfl rfl rfl rfl (RV.of (by intro _ _ h; cases h) (.inl rfl) (fun _ xd => HV.mv rfl)) ?_
  refine Dr.read 3 _ 11 _ rfl rfl rfl rfl rfl (RV.of (by intro _ _ h; cases h) (.inl rfl) (fun _ xd => HV.fa fl31_2 rfl)) ?_
  refine Dr.read 4 _ 12 _ rfl rfl rfl rfl rfl (RV.of (by intro _ _ h; cases h) (.inl rfl) (fun _ xd => HV.fa fl29_1 rfl)) ?_
  refine Dr.read 5 _ 13 _ rfl rfl rfl rfl rfl (RV.of (by intro _ _ h; cases h) (.inl rfl) (fun _ xd => HV.ld rfl va2 (rdc_ext xd (at_cell_add (j := 3) hb7 rfl)))) ?_
  have y11 := hb7.lt
  have o12 := X9.bd
  have o13 := X10.bd
  refine Dr.eff 2 _ _ rfl (by intro d h; cases h; exact ⟨rfl, rfl⟩) rfl rfl rfl (EC.of (by intro _ _ h; cases h) (.inl rfl) (WV.call fn73 rfl (held_ok n p k (ho.ext X9) (hr.ext X9) hok hg))) (fun v H' h => .inl (h.2)) ?_
  rintro _ H15 ⟨⟨u14, rfl, ho17⟩, hx16⟩
  have X18 := Ext.trans X9 hx16
  have X19 := Ext.trans X10 hx16
  have hb20 := hb7.ext hx16
  have X21 := Ext.refl H15
  have hr22 := rd_ofO ho17.rd
  refine Dr.eff 6 _ _ rfl (by intro d h; cases h; exact ⟨rfl, rfl⟩) rfl rfl rfl (EC.of (by intro _ _ h; cases h) (.inl rfl) (WV.call fn83 rfl (unit_ok (W := W) k (by omega)))) (fun v H' h => .inl (h.1)) ?_
  rintro v23 H24 ⟨hx25, ho26⟩
  have X28 := Ext.trans X18 hx25
  have X29 := Ext.trans X19 hx25
  have X30 := Ext.trans X21 hx25
  have hb31 := hb20.ext hx25
  have X32 := Ext.refl H24
  have hr27 : RdK kI W H24 _ v23 (unitL (k : Int).toNat 0) := ho26.rd
  have y33 := hb31.lt
  have o34 := X28.bd
  have o35 := X29.bd
  have o36 := X30.bd
  have o37 := X32.bd
  refine Dr.eff 7 _ _ rfl (by intro d h; cases h; exact ⟨rfl, rfl⟩) rfl rfl rfl (EC.of (by intro _ _ h; cases h) (.inl rfl) (WV.call fn82 rfl (comb_ok p k (hr22.ext X30) hr27 (K := k.toNat) hF.q hk0 hP1 (by omega) (by rw [partL_len]; omega) (unitL_in (by omega) _ _) (unitL_len _ _)))) (fun v H' h => .inl (h.2)) ?_
  rintro _ H39 ⟨⟨u38, rfl, hv41⟩, hx40⟩
  have X42 := Ext.trans X28 hx40
  have X43 := Ext.trans X29 hx40
  have X44 := Ext.trans X30 hx40
  have X45 := Ext.trans X32 hx40
  have hb46 := hb31.ext hx40
  have X47 := Ext.refl H39
  have hr48 := hv41.rd
  refine Dr.read 8 _ 7 _ rfl rfl rfl rfl rfl (RV.of (by intro _ _ h; cases h) (.inl rfl) (fun _ xd => HV.mv rfl)) ?_
  refine Dr.read 9 _ 16 _ rfl rfl rfl rfl rfl (RV.of (by intro _ _ h; cases h) (.inl rfl) (fun _ xd => HV.ex rfl rfl)) ?_
  refine Dr.read 10 _ 17 _ rfl rfl rfl rfl rfl (RV.of (by intro _ _ h; cases h) (.inl rfl) (fun _ xd => HV.ex rfl rfl)) ?_
  refine Dr.read 11 _ 5 _ rfl rfl rfl rfl rfl (RV.of (by intro _ _ h; cases h) (.inl rfl) (fun _ xd => HV.as rfl)) ?_
  refine Dr.read 12 _ 6 _ rfl rfl rfl rfl rfl (RV.of (by intro _ _ h; cases h) (.inl rfl) (fun _ xd => HV.as rfl)) ?_
  refine Dr.fin rfl ?_
  refine nrm_and ?_
  refine AW.rs ?_
  refine AL.val rfl (.inl rfl) (HV.mv rfl) ?_
  refine AL.val rfl (.inl rfl) (HV.as rfl) ?_
  refine AL.nx ?_
  refine AW.ret ?_
  refine post_one rfl rfl ?_ (.inr rfl)
  exact ⟨rfl, X42⟩

set_option maxRecDepth 100000 in
theorem implSO_ok {vo v : Value} {o : List Int} {l : List (List Int)} {oko ok : Nat → Prop} (n p k : Int) (ho : RdK kI W H oko vo o) (hr : RdK (kR kI) W H ok v l) {vg : Value} {g : List Int} {okg : Nat → Prop} (hrg : RdK kI W H okg vg g) : ACalls Try.prog W 25 #[.agg #[.int .i64 n, vo, .int .i64 p, .int .i64 k, v], vg] H (fun r H' => r = .tuple #[.bool (soB n o p k l g), .int .i64 (askC n o p k l g)] ∧ Ext H H') := by
  refine ACalls.of (args := [.agg #[.int .i64 n, vo, .int .i64 p, .int .i64 k, v], vg]) Try.func25 rfl rfl ?_
  have X0 := Ext.refl H
  have hm1 := ho.max
  have hm2 := hr.max
  have hm3 := hrg.max
  refine AW.rs ?_
  refine AL.w rfl (.inl rfl) (WV.bx rfl rfl) ?_
  rintro _ H5 ⟨b4, rfl, hx6, hn7, hb8⟩
  have o9 := Nat.le_trans X0.bd hn7
  have X10 := Ext.trans X0 hx6
  have X11 := Ext.refl H5
  refine AL.val rfl (.inl rfl) (HV.as rfl) ?_
  refine AL.val rfl (.inl rfl) (HV.as rfl) ?_
  refine AL.nx ?_
  refine AW.seq ?_
  refine AW.rs ?_
  refine AL.val rfl (.inl rfl) (HV.lda (cs := [.int .i64 n, vo, .int .i64 p, .int .i64 k, v]) rfl va31 (at_cells hb8 rfl)) ?_
  refine AL.val rfl (.inl rfl) (HV.mv rfl) ?_
  refine AL.w rfl (.inl rfl) (WV.call fn78 rfl (schemeCode_ok n p k (ho.ext X10) (hr.ext X10) (hrg.ext X10))) ?_
  rintro _ H12 ⟨rfl, hx13⟩
  have X14 := Ext.trans X10 hx13
  have X15 := Ext.trans X11 hx13
  have hb16 := hb8.ext hx13
  refine AL.val rfl (.inl rfl) (HV.as rfl) ?_
  refine AL.nx ?_
  refine AW.rs ?_
  refine AL.val rfl (.inl rfl) (HV.mv rfl) ?_
  refine AL.val rfl (.inl rfl) (HV.nei rfl rfl) ?_
  refine AL.nx ?_
  refine AW.ifd rfl (fun c17 => ?_) (fun c17 => ?_)
  · -- then
    refine AW.rs ?_
    refine AL.val rfl (.inl rfl) (HV.mv rfl) ?_
    refine AL.val rfl (.inl rfl) (HV.as rfl) ?_
    refine AL.val rfl (.inl rfl) (HV.as rfl) ?_
    refine AL.nx ?_
    refine AW.ret ?_
    refine ret_and ?_
    refine post_two rfl rfl rfl ?_ (.inr rfl)
    exact ⟨by unfold soB; rw [if_neg (by assumption)], X14⟩
  · -- else
    refine AW.skip ?_
    refine nrm_and ?_
    refine AW.seq ?_
    refine AW.draw' [0, 0, 2, 7, 15, 31] mixed (by rfl) ?_
    obtain ⟨hok, hg⟩ := askC_z (show askC n o p k l g = 0 by omega)
    have hF := okSc_f hok
    have hp := hF.pb
    have hk1 := hF.k1
    have hk0 := hF.k0
    have hF1 := hF.R
    have hF2 := hF.ol
    obtain ⟨hP1, hP2, hP3⟩ := hF.part g
    refine Dr.read 0 _ 13 _ rfl rfl rfl rfl rfl (RV.of (by intro _ _ h; cases h) (.inl rfl) (fun _ xd => HV.lda (cs := [.int .i64 n, vo, .int .i64 p, .int .i64 k, v]) rfl va31 (fun j u hu => rdc_ext xd ((at_cells hb16 rfl) j u hu)))) ?_
    refine Dr.read 1 _ 14 _ rfl rfl rfl rfl rfl (RV.of (by intro _ _ h; cases h) (.inl rfl) (fun _ xd => HV.mv rfl)) ?_
    refine Dr.eff 2 _ _ rfl (by intro d h; cases h; exact ⟨rfl, rfl⟩) rfl rfl rfl (EC.of (by intro _ _ h; cases h) (.inl rfl) (WV.call fn74 rfl (crowdOf_ok (hrg.ext X14) (by skip; exact ris_low hF.hn hg)))) (fun v H' h => .inl (h.2)) ?_
    rintro _ H18 ⟨rfl, hx19⟩
    have X20 := Ext.trans X14 hx19
    have X21 := Ext.trans X15 hx19
    have hb22 := hb16.ext hx19
    refine Dr.eff 3 _ _ rfl (by intro d h; cases h; exact ⟨rfl, rfl⟩) rfl rfl rfl (EC.of (by intro _ _ h; cases h) (.inl rfl) (WV.call fn79 rfl (opens_ok n p k (ho.ext X20) (hr.ext X20) hok hg))) (fun v H' h => .inl (h.2)) ?_
    rintro _ H23 ⟨rfl, hx24⟩
    have X25 := Ext.trans X20 hx24
    have X26 := Ext.trans X21 hx24
    have hb27 := hb22.ext hx24
    refine Dr.read 4 _ 4 _ rfl rfl rfl rfl rfl (RV.of (by intro _ _ h; cases h) (.inl rfl) (fun _ xd => HV.as rfl)) ?_
    refine Dr.read 5 _ 5 _ rfl rfl rfl rfl rfl (RV.of (by intro _ _ h; cases h) (.inl rfl) (fun _ xd => HV.as rfl)) ?_
    refine Dr.fin rfl ?_
    refine nrm_and ?_
    refine AW.ret ?_
    refine post_two rfl rfl rfl ?_ (.inr rfl)
    exact ⟨by unfold soB; rw [if_pos (show askC n o p k l g = 0 by omega), (show askC n o p k l g = 0 by omega)]; (try rfl), X25⟩

set_option maxRecDepth 100000 in
theorem dot_ok {va vb : Value} {la lb : List Int} {ok ok2 : Nat → Prop} {p : Int} (hr : RdK kI W H ok va la) (hr2 : RdK kI W H ok2 vb lb) (hp : 2 ≤ p ∧ p ≤ 31) (hla : elems p la) (hlb : elems p lb) (hl : la.length = lb.length ∧ la.length ≤ 40) : ACalls Try.prog W 89 #[.int .i64 p, va, vb] H (fun r H' => r = .int .i64 (dotI la lb la.length % p) ∧ Ext H H') := by
  refine ACalls.of (args := [.int .i64 p, va, vb]) Try.func89 rfl rfl ?_
  have X0 := Ext.refl H
  have hm1 := hr.max
  have hm2 := hr2.max
  refine AW.rs ?_
  refine AL.val rfl (.inl rfl) (HV.as rfl) ?_
  refine AL.nx ?_
  refine AW.rs ?_
  refine AL.val rfl (.inl rfl) (HV.as rfl) ?_
  refine AL.nx ?_
  refine AW.seq ?_
  refine AW.rs ?_
  refine AL.val rfl (.inl rfl) (HV.mv rfl) ?_
  refine AL.val rfl (.inl rfl) (HV.len Try.underlying22 rfl hr.isSl) ?_
  refine AL.val rfl (.inl rfl) (HV.mv rfl) ?_
  refine AL.nx ?_
  refine AW.block ?_
  refine AW.loop (σ := Nat × Int) (fun ⟨i, s⟩ => [(0, .int .i64 p), (2, vb), (6, .int .i64 0), (10, va), (11, .int .i64 (la.length : Int)), (7, .int .i64 s), (12, .int .i64 (i : Int))]) (fun ⟨i, s⟩ H' => Ext H H' ∧ i ≤ la.length ∧ s = dotI la lb i ∧ True) (fun ⟨i, s⟩ => la.length - i) (0, 0) ⟨X0, Nat.zero_le _, rfl, trivial⟩ ⟨rfl, rfl, rfl, rfl, rfl, rfl, rfl, trivial⟩ ?_
  rintro ⟨i, s⟩ H3 ⟨X4, hi, hs, _⟩
  have hsb := dotI_in hp hla hlb i
  rw [← hs] at hsb
  refine AW.rs ?_
  refine AL.val rfl (.inl rfl) (HV.lti rfl rfl) ?_
  refine AL.nx ?_
  refine AW.seq ?_
  refine AW.ifd rfl (fun c5 => ?_) (fun c5 => ?_)
  · -- then
    refine AW.skip ?_
    refine nrm_and ?_
    refine AW.seq ?_
    refine AW.block ?_
    refine AW.rs ?_
    refine AL.val rfl (.inl rfl) (HV.mv rfl) ?_
    obtain ⟨p6, z7, cs8, hz9, hK10, hC11, hP12⟩ := RdK.ix (q := (i : Int)) hr sl22 (by omega) (by omega)
    obtain rfl : cs8 = [.int .i64 z7] := hK10
    refine AL.val rfl (.inl rfl) (hP12 rfl rfl) ?_
    refine AL.val rfl (.inl rfl) (HV.ld rfl va2 (cells_first (hC11.ext X4) rfl)) ?_
    refine AL.val rfl (.inl rfl) (HV.as rfl) ?_
    refine AL.val rfl (.inl rfl) (HV.as rfl) ?_
    refine AL.nx ?_
    refine AW.reg ?_
    refine AL.val rfl (.inl rfl) (HV.mv rfl) ?_
    refine AL.val rfl (.inl rfl) (HV.mv rfl) ?_
    refine AL.val rfl (.inl rfl) (HV.mv rfl) ?_
    refine AL.val rfl (.inl rfl) (HV.mv rfl) ?_
    obtain ⟨p13, z14, cs15, hz16, hK17, hC18, hP19⟩ := RdK.ix (q := (i : Int)) hr2 sl22 (by omega) (by omega)
    obtain rfl : cs15 = [.int .i64 z14] := hK17
    refine AL.val rfl (.inl rfl) (hP19 rfl rfl) ?_
    refine AL.val rfl (.inl rfl) (HV.ld rfl va2 (cells_first (hC18.ext X4) rfl)) ?_
    have b15 := elem_at hla hz9
    have b21 := elem_at hlb hz16
    have q23 := mul31 (a := z7) (b := z14) (by omega) (by omega) (by omega) (by omega)
    refine AL.val rfl (.inl rfl) (HV.mul rfl rfl (by omega)) ?_
    refine AL.val rfl (.inl rfl) (HV.add rfl rfl (by omega)) ?_
    refine AL.val rfl (.inl rfl) (HV.as rfl) ?_
    refine AL.nil ?_
    refine nrm_blk (nrm_and ?_)
    refine AW.reg ?_
    refine AL.val rfl (.inl rfl) (HV.add rfl rfl (by omega)) ?_
    refine AL.val rfl (.inl rfl) (HV.mv rfl) ?_
    refine AL.nil ?_
    refine nrm_and ?_
    exact ⟨(i + 1, s + (z7 * z14)), ⟨X4, by omega, by rw [dotI_succ, (gd hz9 rfl : la.getD i 0 = z7), (gd hz16 rfl : lb.getD i 0 = z14), hs], trivial⟩, by first | omega | (dsimp only; omega), ⟨rfl, rfl, rfl, rfl, rfl, rfl, rfl, trivial⟩⟩
  · -- else
    refine AW.exit ?_
    refine ex_and (ex_and (ex_blk ?_))
    refine nrm_and ?_
    refine AW.rs ?_
    refine AL.val rfl (.inl rfl) (HV.mv rfl) ?_
    refine AL.val rfl (.inl rfl) (HV.mv rfl) ?_
    refine AL.val rfl (.inl rfl) (HV.rem rfl rfl (by omega)) ?_
    refine AL.val rfl (.inl rfl) (HV.as rfl) ?_
    refine AL.nx ?_
    refine AW.ret ?_
    refine post_one rfl rfl ?_ (.inr rfl)
    exact ⟨by have e : s = dotI la lb la.length := (by rw [hs, show i = la.length by omega]); rw [e], X4⟩

set_option maxRecDepth 100000 in
theorem implRB_ok {vo v : Value} {o : List Int} {l : List (List Int)} {oko ok : Nat → Prop} (n p k : Int) (ho : RdK kI W H oko vo o) (hr : RdK (kR kI) W H ok v l) {vg : Value} {g : List Int} {okg : Nat → Prop} (hrg : RdK kI W H okg vg g) {vh : Value} {h : List Int} {okh : Nat → Prop} (hrh : RdK kI W H okh vh h) : ACalls Try.prog W 33 #[.agg #[.int .i64 n, vo, .int .i64 p, .int .i64 k, v], vg, vh] H (fun r H' => r = .tuple #[.int .i64 (rbV n o p k l g h), .int .i64 (rbC n o p k l g h)] ∧ Ext H H') := by
  refine ACalls.of (args := [.agg #[.int .i64 n, vo, .int .i64 p, .int .i64 k, v], vg, vh]) Try.func33 rfl rfl ?_
  have X0 := Ext.refl H
  have hm1 := ho.max
  have hm2 := hr.max
  have hm3 := hrg.max
  have hm4 := hrh.max
  refine AW.rs ?_
  refine AL.w rfl (.inl rfl) (WV.bx rfl rfl) ?_
  rintro _ H6 ⟨b5, rfl, hx7, hn8, hb9⟩
  have o10 := Nat.le_trans X0.bd hn8
  have X11 := Ext.trans X0 hx7
  have X12 := Ext.refl H6
  refine AL.val rfl (.inl rfl) (HV.as rfl) ?_
  refine AL.val rfl (.inl rfl) (HV.as rfl) ?_
  refine AL.nx ?_
  refine AW.seq ?_
  refine AW.rs ?_
  refine AL.val rfl (.inl rfl) (HV.lda (cs := [.int .i64 n, vo, .int .i64 p, .int .i64 k, v]) rfl va31 (at_cells hb9 rfl)) ?_
  refine AL.val rfl (.inl rfl) (HV.mv rfl) ?_
  refine AL.val rfl (.inl rfl) (HV.mv rfl) ?_
  refine AL.w rfl (.inl rfl) (WV.call fn72 rfl (heldCode_ok n p k (ho.ext X11) (hr.ext X11) (hrg.ext X11) (hrh.ext X11))) ?_
  rintro _ H13 ⟨rfl, hx14⟩
  have X15 := Ext.trans X11 hx14
  have X16 := Ext.trans X12 hx14
  have hb17 := hb9.ext hx14
  refine AL.val rfl (.inl rfl) (HV.as rfl) ?_
  refine AL.nx ?_
  refine AW.rs ?_
  refine AL.val rfl (.inl rfl) (HV.mv rfl) ?_
  refine AL.val rfl (.inl rfl) (HV.nei rfl rfl) ?_
  refine AL.nx ?_
  refine AW.ifd rfl (fun c18 => ?_) (fun c18 => ?_)
  · -- then
    refine AW.rs ?_
    refine AL.val rfl (.inl rfl) (HV.mv rfl) ?_
    refine AL.val rfl (.inl rfl) (HV.as rfl) ?_
    refine AL.val rfl (.inl rfl) (HV.as rfl) ?_
    refine AL.nx ?_
    refine AW.ret ?_
    refine ret_and ?_
    refine post_two rfl rfl rfl ?_ (.inr rfl)
    exact ⟨by unfold rbV rbC; rw [if_neg (fun q => absurd q.1 (by assumption)), if_neg (by assumption)], X15⟩
  · -- else
    refine AW.skip ?_
    refine nrm_and ?_
    refine AW.seq ?_
    refine AW.draw' [0, 0, 2, 7, 0, 31] mixed (by rfl) ?_
    obtain ⟨hok, hg, hh1, hh2⟩ := withC_z (show withC n o p k l g h = 0 by omega)
    have hF := okSc_f hok
    have hp := hF.pb
    have hk1 := hF.k1
    have hk0 := hF.k0
    have hF1 := hF.R
    have hF2 := hF.ol
    obtain ⟨hP1, hP2, hP3⟩ := hF.part g
    obtain ⟨hO1, hO2, hO3⟩ := hF.opn g
    refine Dr.read 0 _ 21 _ rfl rfl rfl rfl rfl (RV.of (by intro _ _ h; cases h) (.inl rfl) (fun _ xd => HV.lda (cs := [.int .i64 n, vo, .int .i64 p, .int .i64 k, v]) rfl va31 (fun j u hu => rdc_ext xd ((at_cells hb17 rfl) j u hu)))) ?_
    refine Dr.read 1 _ 22 _ rfl rfl rfl rfl rfl (RV.of (by intro _ _ h; cases h) (.inl rfl) (fun _ xd => HV.mv rfl)) ?_
    refine Dr.eff2 2 4 _ _ _ _  rfl rfl  (by intro d h; cases h; exact ⟨rfl, rfl⟩) (by intro d h; cases h; exact ⟨rfl, rfl⟩) rfl rfl  rfl rfl rfl  (EC.of (by intro _ _ h; cases h) (.inl rfl) (WV.call fn74 rfl (crowdOf_ok (hrg.ext X15) (by skip; exact ris_low hF.hn hg)))) (EC.of (by intro _ _ h; cases h) (.inl rfl) (WV.al ze29 rfl)) (fun v H' h => .inl (h.2)) (fun v H' h => .inl (h.choose_spec.2.1)) ?_ ?_ 
    · -- 2 first
      rintro _ H26 ⟨rfl, hx27⟩
      have X28 := Ext.trans X15 hx27
      have X29 := Ext.trans X16 hx27
      have hb30 := hb17.ext hx27
      have X31 := Ext.refl H26
      have y32 := hb30.lt
      have o33 := X28.bd
      have o34 := X29.bd
      have o35 := X31.bd
      refine Dr.eff2 3 4 _ _ _ _  rfl rfl  (by intro d h; cases h; exact ⟨rfl, rfl⟩) (by intro d h; cases h; exact ⟨rfl, rfl⟩) rfl rfl  rfl rfl rfl  (EC.of (by intro _ _ h; cases h) (.inl rfl) (WV.call fn73 rfl (held_ok n p k (ho.ext X28) (hr.ext X28) hok hg))) (EC.of (by intro _ _ h; cases h) (.inl rfl) (WV.al ze29 rfl)) (fun v H' h => .inl (h.2)) (fun v H' h => .inl (h.choose_spec.2.1)) ?_ ?_ 
      · -- 3 first
        have X47 := Ext.refl H26
        have y48 := hb30.lt
        have o49 := X28.bd
        have o50 := X29.bd
        have o51 := X47.bd
        rintro _ H53 ⟨⟨u52, rfl, ho55⟩, hx54⟩
        have X58 := Ext.trans X28 hx54
        have X59 := Ext.trans X29 hx54
        have X60 := Ext.trans X47 hx54
        have hb61 := hb30.ext hx54
        have X62 := Ext.refl H53
        have hr56 : RdK (kR kI) W H53 (fun b => H26.bd ≤ b ∧ b < H53.bd) u52 (partL l (idxG o g)) := (rd_ofO ho55.rd).okk (fun b hb hlt => ⟨hb, hlt⟩)
        refine Dr.eff 4 _ _ rfl (by intro d h; cases h; exact ⟨rfl, rfl⟩) rfl rfl rfl (EC.of (by intro _ _ h; cases h) (.inl rfl) (WV.al ze29 rfl)) (fun v H' h => .inl (h.choose_spec.2.1)) ?_
        rintro _ H64 ⟨b63, rfl, hx65, hn66, hb67⟩
        have o68 := Nat.le_trans X58.bd hn66
        have o69 := Nat.le_trans X59.bd hn66
        have o70 := Nat.le_trans X60.bd hn66
        have o71 := Nat.le_trans X62.bd hn66
        have ne72 : b5 ≠ b63 := by have := hb61.lt; omega
        have X73 := Ext.trans X58 hx65
        have X74 := Ext.trans X59 hx65
        have X75 := Ext.trans X60 hx65
        have X76 := Ext.trans X62 hx65
        have ho77 := hr56.ext hx65
        have hb78 := hb61.ext hx65
        have X79 := Ext.refl H64
        refine Dr.eff 5 _ _ rfl (by intro d h; cases h) rfl rfl rfl (EC.of (by intro _ _ h; cases h) (.inl rfl) (WV.st rfl rfl va29 rfl hb67 (Nat.le_of_ble_eq_true rfl) (one_cons rfl (one_cons rfl (one_cons (sl_one1 ho77.isSl) one_nil))))) (fun v H' h => .inr (.inl rfl)) ?_
        rintro _ H80 ⟨hx81, hb82⟩
        have X83 := Ext.thru X73 hx81 (fun z_ hz_ => by rw [hz_]; exact o68)
        have X84 := Ext.thru X74 hx81 (fun z_ hz_ => by rw [hz_]; exact o69)
        have X85 := Ext.thru X75 hx81 (fun z_ hz_ => by rw [hz_]; exact o70)
        have X86 := Ext.thru X76 hx81 (fun z_ hz_ => by rw [hz_]; exact o71)
        have ho88 := ho77.but hx81 (fun b hb _ e => by have h1 : H26.bd ≤ b ∧ b < H53.bd := hb; have h2 : b = b63 := e; omega) (fun z_ hz_ => by rw [hz_]; exact hb67.w)
        have hb89 := hb78.but hx81 ne72
        have hb90 : At W H80 b63 ⟨29, [.int .i64 p, .int .i64 k, u52], 3⟩ := hb82
        refine Dr.fin rfl ?_
        refine nrm_and ?_
        refine AW.seq ?_
        refine AW.draw' [0, 0, 2, 6, 15, 31, 63, 63, 127, 511] mixed (by rfl) ?_
        refine Dr.read 0 _ 26 _ rfl rfl rfl rfl rfl (RV.of (by intro _ _ h; cases h) (.inl rfl) (fun _ xd => HV.lda (cs := [.int .i64 p, .int .i64 k, u52]) rfl va29 (fun j u hu => rdc_ext xd ((at_cells hb90 rfl) j u hu)))) ?_
        refine Dr.read 1 _ 27 _ rfl rfl rfl rfl rfl (RV.of (by intro _ _ h; cases h) (.inl rfl) (fun _ xd => HV.fa fl29_1 rfl)) ?_
        refine Dr.read 2 _ 28 _ rfl rfl rfl rfl rfl (RV.of (by intro _ _ h; cases h) (.inl rfl) (fun _ xd => HV.ld rfl va2 (rdc_ext xd (at_cell_add (j := 1) hb90 rfl)))) ?_
        refine Dr.eff 3 _ _ rfl (by intro d h; cases h; exact ⟨rfl, rfl⟩) rfl rfl rfl (EC.of (by intro _ _ h; cases h) (.inl rfl) (WV.call fn83 rfl (unit_ok (W := W) k (by omega)))) (fun v H' h => .inl (h.1)) ?_
        rintro v91 H92 ⟨hx93, ho94⟩
        have X96 := Ext.trans X83 hx93
        have X97 := Ext.trans X84 hx93
        have X98 := Ext.trans X85 hx93
        have X99 := Ext.trans X86 hx93
        have ho100 := ho88.ext hx93
        have hb101 := hb89.ext hx93
        have hb102 := hb90.ext hx93
        have X103 := Ext.refl H92
        have hr95 : RdK kI W H92 _ v91 (unitL (k : Int).toNat 0) := ho94.rd
        have y104 := hb101.lt
        have y105 := hb102.lt
        have o106 := X96.bd
        have o107 := X97.bd
        have o108 := X98.bd
        have o109 := X99.bd
        have o110 := X103.bd
        refine Dr.eff 4 _ _ rfl (by intro d h; cases h; exact ⟨rfl, rfl⟩) rfl rfl rfl (EC.of (by intro _ _ h; cases h) (.inl rfl) (WV.call fn82 rfl (comb_ok p k ho100 hr95 (K := k.toNat) hF.q hk0 hP1 (by omega) (by rw [partL_len]; omega) (unitL_in (by omega) _ _) (unitL_len _ _)))) (fun v H' h => .inl (h.2)) ?_
        rintro _ H112 ⟨⟨u111, rfl, hv114⟩, hx113⟩
        have X115 := Ext.trans X96 hx113
        have X116 := Ext.trans X97 hx113
        have X117 := Ext.trans X98 hx113
        have X118 := Ext.trans X99 hx113
        have X119 := Ext.trans X103 hx113
        have ho120 := ho100.ext hx113
        have hb121 := hb101.ext hx113
        have hb122 := hb102.ext hx113
        have X123 := Ext.refl H112
        have hr124 := hv114.rd
        refine Dr.read 5 _ 25 _ rfl rfl rfl rfl rfl (RV.of (by intro _ _ h; cases h) (.inl rfl) (fun _ xd => HV.mv rfl)) ?_
        refine Dr.read 6 _ 31 _ rfl rfl rfl rfl rfl (RV.of (by intro _ _ h; cases h) (.inl rfl) (fun _ xd => HV.ex rfl rfl)) ?_
        refine Dr.read 7 _ 32 _ rfl rfl rfl rfl rfl (RV.of (by intro _ _ h; cases h) (.inl rfl) (fun _ xd => HV.ex rfl rfl)) ?_
        refine Dr.read 8 _ 10 _ rfl rfl rfl rfl rfl (RV.of (by intro _ _ h; cases h) (.inl rfl) (fun _ xd => HV.as rfl)) ?_
        refine Dr.read 9 _ 11 _ rfl rfl rfl rfl rfl (RV.of (by intro _ _ h; cases h) (.inl rfl) (fun _ xd => HV.as rfl)) ?_
        refine Dr.fin rfl ?_
        refine nrm_and ?_
        refine AW.seq ?_
        refine AW.rs ?_
        refine AL.val rfl (.inl rfl) (HV.mv rfl) ?_
        refine AL.val rfl (.inl rfl) (HV.not rfl) ?_
        refine AL.nx ?_
        refine AW.cond rfl (fun c125 => ?_) (fun c125 => ?_)
        · -- then
          refine AW.rs ?_
          refine AL.val rfl (.inl rfl) (HV.as rfl) ?_
          refine AL.val rfl (.inl rfl) (HV.as rfl) ?_
          refine AL.nx ?_
          refine AW.ret ?_
          refine ret_and ?_
          refine post_two rfl rfl rfl ?_ (.inr rfl)
          have hb : (openX p k o l g).2 = false := bnot_t c125; exact ⟨by unfold rbV rbC; rw [if_neg (fun q => by have q2 := q.2.1; rw [hb] at q2; cases q2), if_pos (show withC n o p k l g h = 0 by omega), if_neg (fun q => by rw [hb] at q; cases q)], X115⟩
        · -- else
          refine AW.skip ?_
          refine nrm_and ?_
          refine AW.seq ?_
          refine AW.rs ?_
          have hox : (openX p k o l g).2 = true := bnot_f c125
          refine AL.val rfl (.inl rfl) (HV.lda (cs := [.int .i64 p, .int .i64 k, u52]) rfl va29 (at_cells hb122 rfl)) ?_
          refine AL.val rfl (.inl rfl) (HV.mv rfl) ?_
          have y126 := hb121.lt
          have y127 := hb122.lt
          have o128 := X115.bd
          have o129 := X116.bd
          have o130 := X117.bd
          have o131 := X118.bd
          have o132 := X119.bd
          have o133 := X123.bd
          refine AL.w rfl (.inl rfl) (WV.call fn75 rfl (implSol_ok p k ho120 (hrh.ext X115) hF.q hk0 hP1 (by omega) (by rw [partL_len]; omega) hh1 (by rw [partL_len]; exact hh2))) ?_
          rintro _ H135 ⟨⟨v134, rfl, hv137⟩, hx136⟩
          have X138 := Ext.trans X115 hx136
          have X139 := Ext.trans X116 hx136
          have X140 := Ext.trans X117 hx136
          have X141 := Ext.trans X118 hx136
          have X142 := Ext.trans X119 hx136
          have X143 := Ext.trans X123 hx136
          have ho144 := ho120.ext hx136
          have hb145 := hb121.ext hx136
          have hb146 := hb122.ext hx136
          have X147 := Ext.refl H135
          have hr148 := hv137.rd
          refine AL.val rfl (.inl rfl) (HV.mv rfl) ?_
          refine AL.val rfl (.inl rfl) (HV.ex rfl rfl) ?_
          refine AL.val rfl (.inl rfl) (HV.ex rfl rfl) ?_
          refine AL.val rfl (.inl rfl) (HV.as rfl) ?_
          refine AL.val rfl (.inl rfl) (HV.as rfl) ?_
          refine AL.nx ?_
          refine AW.rs ?_
          refine AL.val rfl (.inl rfl) (HV.mv rfl) ?_
          refine AL.val rfl (.inl rfl) (HV.not rfl) ?_
          refine AL.nx ?_
          refine AW.cond rfl (fun c149 => ?_) (fun c149 => ?_)
          · -- then
            refine AW.rs ?_
            refine AL.val rfl (.inl rfl) (HV.as rfl) ?_
            refine AL.val rfl (.inl rfl) (HV.as rfl) ?_
            refine AL.nx ?_
            refine AW.ret ?_
            refine ret_and ?_
            refine post_two rfl rfl rfl ?_ (.inr rfl)
            have hcb : conB n o p k l g h = (solM p k.toNat (besL (partL l (idxG o g)) [h] (partL l (idxG o g)).length)).2 := (by unfold conB; rw [if_pos (show withC n o p k l g h = 0 by omega)]); have hb := hcb.trans (bnot_t c149); exact ⟨by unfold rbV rbC; rw [if_neg (fun q => by have q2 := q.2.2; rw [hb] at q2; cases q2), if_pos (show withC n o p k l g h = 0 by omega), if_pos hox, if_neg (fun q => by rw [hb] at q; cases q)], X138⟩
          · -- else
            refine AW.skip ?_
            refine nrm_and ?_
            refine AW.rs ?_
            have hos : (solM p k.toNat (besL (partL l (idxG o g)) [h] (partL l (idxG o g)).length)).2 = true := bnot_f c149
            refine AL.val rfl (.inl rfl) (HV.fa fl29_0 rfl) ?_
            refine AL.val rfl (.inl rfl) (HV.ld rfl va2 (at_cell hb146 rfl)) ?_
            refine AL.val rfl (.inl rfl) (HV.mv rfl) ?_
            refine AL.val rfl (.inl rfl) (HV.mv rfl) ?_
            refine AL.w rfl (.inl rfl) (WV.call fn89 rfl (dot_ok (hr124.ext X143) (hrh.ext X138) hp hO1 hh1 ⟨(hO2 hox).trans hh2.symm, Nat.le_trans hO3 (by decide)⟩)) ?_
            rintro _ H150 ⟨rfl, hx151⟩
            have X152 := Ext.trans X138 hx151
            have X153 := Ext.trans X139 hx151
            have X154 := Ext.trans X140 hx151
            have X155 := Ext.trans X141 hx151
            have X156 := Ext.trans X142 hx151
            have X157 := Ext.trans X143 hx151
            have X158 := Ext.trans X147 hx151
            have ho159 := ho144.ext hx151
            have hb160 := hb145.ext hx151
            have hb161 := hb146.ext hx151
            refine AL.val rfl (.inl rfl) (HV.as rfl) ?_
            refine AL.val rfl (.inl rfl) (HV.as rfl) ?_
            refine AL.nx ?_
            refine AW.ret ?_
            refine post_two rfl rfl rfl ?_ (.inr rfl)
            have hcb : conB n o p k l g h = (solM p k.toNat (besL (partL l (idxG o g)) [h] (partL l (idxG o g)).length)).2 := (by unfold conB; rw [if_pos (show withC n o p k l g h = 0 by omega)]); have hb := hcb.trans hos; exact ⟨by unfold rbV rbC; rw [if_pos ⟨(show withC n o p k l g h = 0 by omega), hox, hb⟩, if_pos (show withC n o p k l g h = 0 by omega), if_pos hox, if_pos hb]; (try rfl), X152⟩
      · -- 4 first
        rintro _ H163 ⟨b162, rfl, hx164, hn165, hb166⟩
        have o167 := Nat.le_trans X28.bd hn165
        have o168 := Nat.le_trans X29.bd hn165
        have ne169 : b5 ≠ b162 := by have := hb30.lt; omega
        have X170 := Ext.trans X28 hx164
        have X171 := Ext.trans X29 hx164
        have hb172 := hb30.ext hx164
        have X173 := Ext.refl H163
        have y174 := hb172.lt
        have y175 := hb166.lt
        have o176 := X170.bd
        have o177 := X171.bd
        have o178 := X173.bd
        refine Dr.eff 3 _ _ rfl (by intro d h; cases h; exact ⟨rfl, rfl⟩) rfl rfl rfl (EC.of (by intro _ _ h; cases h) (.inl rfl) (WV.call fn73 rfl (held_ok n p k (ho.ext X170) (hr.ext X170) hok hg))) (fun v H' h => .inl (h.2)) ?_
        rintro _ H180 ⟨⟨u179, rfl, ho182⟩, hx181⟩
        have X185 := Ext.trans X170 hx181
        have X186 := Ext.trans X171 hx181
        have X187 := Ext.trans X173 hx181
        have hb188 := hb172.ext hx181
        have hb189 := hb166.ext hx181
        have X190 := Ext.refl H180
        have hr183 : RdK (kR kI) W H180 (fun b => H163.bd ≤ b ∧ b < H180.bd) u179 (partL l (idxG o g)) := (rd_ofO ho182.rd).okk (fun b hb hlt => ⟨hb, hlt⟩)
        refine Dr.eff 5 _ _ rfl (by intro d h; cases h) rfl rfl rfl (EC.of (by intro _ _ h; cases h) (.inl rfl) (WV.st rfl rfl va29 rfl hb189 (Nat.le_of_ble_eq_true rfl) (one_cons rfl (one_cons rfl (one_cons (sl_one1 hr183.isSl) one_nil))))) (fun v H' h => .inr (.inl rfl)) ?_
        rintro _ H191 ⟨hx192, hb193⟩
        have X194 := Ext.thru X185 hx192 (fun z_ hz_ => by rw [hz_]; exact o167)
        have X195 := Ext.thru X186 hx192 (fun z_ hz_ => by rw [hz_]; exact o168)
        have ho198 := hr183.but hx192 (fun b hb _ e => by have h1 : H163.bd ≤ b ∧ b < H180.bd := hb; have h2 : b = b162 := e; omega) (fun z_ hz_ => by rw [hz_]; exact hb189.w)
        have hb199 := hb188.but hx192 ne169
        have hb200 : At W H191 b162 ⟨29, [.int .i64 p, .int .i64 k, u179], 3⟩ := hb193
        refine Dr.fin rfl ?_
        refine nrm_and ?_
        refine AW.seq ?_
        refine AW.draw' [0, 0, 2, 6, 15, 31, 63, 63, 127, 511] mixed (by rfl) ?_
        refine Dr.read 0 _ 26 _ rfl rfl rfl rfl rfl (RV.of (by intro _ _ h; cases h) (.inl rfl) (fun _ xd => HV.lda (cs := [.int .i64 p, .int .i64 k, u179]) rfl va29 (fun j u hu => rdc_ext xd ((at_cells hb200 rfl) j u hu)))) ?_
        refine Dr.read 1 _ 27 _ rfl rfl rfl rfl rfl (RV.of (by intro _ _ h; cases h) (.inl rfl) (fun _ xd => HV.fa fl29_1 rfl)) ?_
        refine Dr.read 2 _ 28 _ rfl rfl rfl rfl rfl (RV.of (by intro _ _ h; cases h) (.inl rfl) (fun _ xd => HV.ld rfl va2 (rdc_ext xd (at_cell_add (j := 1) hb200 rfl)))) ?_
        refine Dr.eff 3 _ _ rfl (by intro d h; cases h; exact ⟨rfl, rfl⟩) rfl rfl rfl (EC.of (by intro _ _ h; cases h) (.inl rfl) (WV.call fn83 rfl (unit_ok (W := W) k (by omega)))) (fun v H' h => .inl (h.1)) ?_
        rintro v201 H202 ⟨hx203, ho204⟩
        have X206 := Ext.trans X194 hx203
        have X207 := Ext.trans X195 hx203
        have ho208 := ho198.ext hx203
        have hb209 := hb199.ext hx203
        have hb210 := hb200.ext hx203
        have X211 := Ext.refl H202
        have hr205 : RdK kI W H202 _ v201 (unitL (k : Int).toNat 0) := ho204.rd
        have y212 := hb209.lt
        have y213 := hb210.lt
        have o214 := X206.bd
        have o215 := X207.bd
        have o216 := X211.bd
        refine Dr.eff 4 _ _ rfl (by intro d h; cases h; exact ⟨rfl, rfl⟩) rfl rfl rfl (EC.of (by intro _ _ h; cases h) (.inl rfl) (WV.call fn82 rfl (comb_ok p k ho208 hr205 (K := k.toNat) hF.q hk0 hP1 (by omega) (by rw [partL_len]; omega) (unitL_in (by omega) _ _) (unitL_len _ _)))) (fun v H' h => .inl (h.2)) ?_
        rintro _ H218 ⟨⟨u217, rfl, hv220⟩, hx219⟩
        have X221 := Ext.trans X206 hx219
        have X222 := Ext.trans X207 hx219
        have X223 := Ext.trans X211 hx219
        have ho224 := ho208.ext hx219
        have hb225 := hb209.ext hx219
        have hb226 := hb210.ext hx219
        have X227 := Ext.refl H218
        have hr228 := hv220.rd
        refine Dr.read 5 _ 25 _ rfl rfl rfl rfl rfl (RV.of (by intro _ _ h; cases h) (.inl rfl) (fun _ xd => HV.mv rfl)) ?_
        refine Dr.read 6 _ 31 _ rfl rfl rfl rfl rfl (RV.of (by intro _ _ h; cases h) (.inl rfl) (fun _ xd => HV.ex rfl rfl)) ?_
        refine Dr.read 7 _ 32 _ rfl rfl rfl rfl rfl (RV.of (by intro _ _ h; cases h) (.inl rfl) (fun _ xd => HV.ex rfl rfl)) ?_
        refine Dr.read 8 _ 10 _ rfl rfl rfl rfl rfl (RV.of (by intro _ _ h; cases h) (.inl rfl) (fun _ xd => HV.as rfl)) ?_
        refine Dr.read 9 _ 11 _ rfl rfl rfl rfl rfl (RV.of (by intro _ _ h; cases h) (.inl rfl) (fun _ xd => HV.as rfl)) ?_
        refine Dr.fin rfl ?_
        refine nrm_and ?_
        refine AW.seq ?_
        refine AW.rs ?_
        refine AL.val rfl (.inl rfl) (HV.mv rfl) ?_
        refine AL.val rfl (.inl rfl) (HV.not rfl) ?_
        refine AL.nx ?_
        refine AW.cond rfl (fun c229 => ?_) (fun c229 => ?_)
        · -- then
          refine AW.rs ?_
          refine AL.val rfl (.inl rfl) (HV.as rfl) ?_
          refine AL.val rfl (.inl rfl) (HV.as rfl) ?_
          refine AL.nx ?_
          refine AW.ret ?_
          refine ret_and ?_
          refine post_two rfl rfl rfl ?_ (.inr rfl)
          have hb : (openX p k o l g).2 = false := bnot_t c229; exact ⟨by unfold rbV rbC; rw [if_neg (fun q => by have q2 := q.2.1; rw [hb] at q2; cases q2), if_pos (show withC n o p k l g h = 0 by omega), if_neg (fun q => by rw [hb] at q; cases q)], X221⟩
        · -- else
          refine AW.skip ?_
          refine nrm_and ?_
          refine AW.seq ?_
          refine AW.rs ?_
          have hox : (openX p k o l g).2 = true := bnot_f c229
          refine AL.val rfl (.inl rfl) (HV.lda (cs := [.int .i64 p, .int .i64 k, u179]) rfl va29 (at_cells hb226 rfl)) ?_
          refine AL.val rfl (.inl rfl) (HV.mv rfl) ?_
          have y230 := hb225.lt
          have y231 := hb226.lt
          have o232 := X221.bd
          have o233 := X222.bd
          have o234 := X223.bd
          have o235 := X227.bd
          refine AL.w rfl (.inl rfl) (WV.call fn75 rfl (implSol_ok p k ho224 (hrh.ext X221) hF.q hk0 hP1 (by omega) (by rw [partL_len]; omega) hh1 (by rw [partL_len]; exact hh2))) ?_
          rintro _ H237 ⟨⟨v236, rfl, hv239⟩, hx238⟩
          have X240 := Ext.trans X221 hx238
          have X241 := Ext.trans X222 hx238
          have X242 := Ext.trans X223 hx238
          have X243 := Ext.trans X227 hx238
          have ho244 := ho224.ext hx238
          have hb245 := hb225.ext hx238
          have hb246 := hb226.ext hx238
          have X247 := Ext.refl H237
          have hr248 := hv239.rd
          refine AL.val rfl (.inl rfl) (HV.mv rfl) ?_
          refine AL.val rfl (.inl rfl) (HV.ex rfl rfl) ?_
          refine AL.val rfl (.inl rfl) (HV.ex rfl rfl) ?_
          refine AL.val rfl (.inl rfl) (HV.as rfl) ?_
          refine AL.val rfl (.inl rfl) (HV.as rfl) ?_
          refine AL.nx ?_
          refine AW.rs ?_
          refine AL.val rfl (.inl rfl) (HV.mv rfl) ?_
          refine AL.val rfl (.inl rfl) (HV.not rfl) ?_
          refine AL.nx ?_
          refine AW.cond rfl (fun c249 => ?_) (fun c249 => ?_)
          · -- then
            refine AW.rs ?_
            refine AL.val rfl (.inl rfl) (HV.as rfl) ?_
            refine AL.val rfl (.inl rfl) (HV.as rfl) ?_
            refine AL.nx ?_
            refine AW.ret ?_
            refine ret_and ?_
            refine post_two rfl rfl rfl ?_ (.inr rfl)
            have hcb : conB n o p k l g h = (solM p k.toNat (besL (partL l (idxG o g)) [h] (partL l (idxG o g)).length)).2 := (by unfold conB; rw [if_pos (show withC n o p k l g h = 0 by omega)]); have hb := hcb.trans (bnot_t c249); exact ⟨by unfold rbV rbC; rw [if_neg (fun q => by have q2 := q.2.2; rw [hb] at q2; cases q2), if_pos (show withC n o p k l g h = 0 by omega), if_pos hox, if_neg (fun q => by rw [hb] at q; cases q)], X240⟩
          · -- else
            refine AW.skip ?_
            refine nrm_and ?_
            refine AW.rs ?_
            have hos : (solM p k.toNat (besL (partL l (idxG o g)) [h] (partL l (idxG o g)).length)).2 = true := bnot_f c249
            refine AL.val rfl (.inl rfl) (HV.fa fl29_0 rfl) ?_
            refine AL.val rfl (.inl rfl) (HV.ld rfl va2 (at_cell hb246 rfl)) ?_
            refine AL.val rfl (.inl rfl) (HV.mv rfl) ?_
            refine AL.val rfl (.inl rfl) (HV.mv rfl) ?_
            refine AL.w rfl (.inl rfl) (WV.call fn89 rfl (dot_ok (hr228.ext X243) (hrh.ext X240) hp hO1 hh1 ⟨(hO2 hox).trans hh2.symm, Nat.le_trans hO3 (by decide)⟩)) ?_
            rintro _ H250 ⟨rfl, hx251⟩
            have X252 := Ext.trans X240 hx251
            have X253 := Ext.trans X241 hx251
            have X254 := Ext.trans X242 hx251
            have X255 := Ext.trans X243 hx251
            have X256 := Ext.trans X247 hx251
            have ho257 := ho244.ext hx251
            have hb258 := hb245.ext hx251
            have hb259 := hb246.ext hx251
            refine AL.val rfl (.inl rfl) (HV.as rfl) ?_
            refine AL.val rfl (.inl rfl) (HV.as rfl) ?_
            refine AL.nx ?_
            refine AW.ret ?_
            refine post_two rfl rfl rfl ?_ (.inr rfl)
            have hcb : conB n o p k l g h = (solM p k.toNat (besL (partL l (idxG o g)) [h] (partL l (idxG o g)).length)).2 := (by unfold conB; rw [if_pos (show withC n o p k l g h = 0 by omega)]); have hb := hcb.trans hos; exact ⟨by unfold rbV rbC; rw [if_pos ⟨(show withC n o p k l g h = 0 by omega), hox, hb⟩, if_pos (show withC n o p k l g h = 0 by omega), if_pos hox, if_pos hb]; (try rfl), X252⟩
    · -- 4 first
      rintro _ H261 ⟨b260, rfl, hx262, hn263, hb264⟩
      have o265 := Nat.le_trans X15.bd hn263
      have o266 := Nat.le_trans X16.bd hn263
      have ne267 : b5 ≠ b260 := by have := hb17.lt; omega
      have X268 := Ext.trans X15 hx262
      have X269 := Ext.trans X16 hx262
      have hb270 := hb17.ext hx262
      have X271 := Ext.refl H261
      refine Dr.eff 2 _ _ rfl (by intro d h; cases h; exact ⟨rfl, rfl⟩) rfl rfl rfl (EC.of (by intro _ _ h; cases h) (.inl rfl) (WV.call fn74 rfl (crowdOf_ok (hrg.ext X268) (by skip; exact ris_low hF.hn hg)))) (fun v H' h => .inl (h.2)) ?_
      rintro _ H272 ⟨rfl, hx273⟩
      have X274 := Ext.trans X268 hx273
      have X275 := Ext.trans X269 hx273
      have X276 := Ext.trans X271 hx273
      have hb277 := hb270.ext hx273
      have hb278 := hb264.ext hx273
      have X279 := Ext.refl H272
      have y280 := hb277.lt
      have y281 := hb278.lt
      have o282 := X274.bd
      have o283 := X275.bd
      have o284 := X276.bd
      have o285 := X279.bd
      refine Dr.eff 3 _ _ rfl (by intro d h; cases h; exact ⟨rfl, rfl⟩) rfl rfl rfl (EC.of (by intro _ _ h; cases h) (.inl rfl) (WV.call fn73 rfl (held_ok n p k (ho.ext X274) (hr.ext X274) hok hg))) (fun v H' h => .inl (h.2)) ?_
      rintro _ H287 ⟨⟨u286, rfl, ho289⟩, hx288⟩
      have X292 := Ext.trans X274 hx288
      have X293 := Ext.trans X275 hx288
      have X294 := Ext.trans X276 hx288
      have X295 := Ext.trans X279 hx288
      have hb296 := hb277.ext hx288
      have hb297 := hb278.ext hx288
      have X298 := Ext.refl H287
      have hr290 : RdK (kR kI) W H287 (fun b => H272.bd ≤ b ∧ b < H287.bd) u286 (partL l (idxG o g)) := (rd_ofO ho289.rd).okk (fun b hb hlt => ⟨hb, hlt⟩)
      refine Dr.eff 5 _ _ rfl (by intro d h; cases h) rfl rfl rfl (EC.of (by intro _ _ h; cases h) (.inl rfl) (WV.st rfl rfl va29 rfl hb297 (Nat.le_of_ble_eq_true rfl) (one_cons rfl (one_cons rfl (one_cons (sl_one1 hr290.isSl) one_nil))))) (fun v H' h => .inr (.inl rfl)) ?_
      rintro _ H299 ⟨hx300, hb301⟩
      have X302 := Ext.thru X292 hx300 (fun z_ hz_ => by rw [hz_]; exact o265)
      have X303 := Ext.thru X293 hx300 (fun z_ hz_ => by rw [hz_]; exact o266)
      have ho307 := hr290.but hx300 (fun b hb _ e => by have h1 : H272.bd ≤ b ∧ b < H287.bd := hb; have h2 : b = b260 := e; omega) (fun z_ hz_ => by rw [hz_]; exact hb297.w)
      have hb308 := hb296.but hx300 ne267
      have hb309 : At W H299 b260 ⟨29, [.int .i64 p, .int .i64 k, u286], 3⟩ := hb301
      refine Dr.fin rfl ?_
      refine nrm_and ?_
      refine AW.seq ?_
      refine AW.draw' [0, 0, 2, 6, 15, 31, 63, 63, 127, 511] mixed (by rfl) ?_
      refine Dr.read 0 _ 26 _ rfl rfl rfl rfl rfl (RV.of (by intro _ _ h; cases h) (.inl rfl) (fun _ xd => HV.lda (cs := [.int .i64 p, .int .i64 k, u286]) rfl va29 (fun j u hu => rdc_ext xd ((at_cells hb309 rfl) j u hu)))) ?_
      refine Dr.read 1 _ 27 _ rfl rfl rfl rfl rfl (RV.of (by intro _ _ h; cases h) (.inl rfl) (fun _ xd => HV.fa fl29_1 rfl)) ?_
      refine Dr.read 2 _ 28 _ rfl rfl rfl rfl rfl (RV.of (by intro _ _ h; cases h) (.inl rfl) (fun _ xd => HV.ld rfl va2 (rdc_ext xd (at_cell_add (j := 1) hb309 rfl)))) ?_
      refine Dr.eff 3 _ _ rfl (by intro d h; cases h; exact ⟨rfl, rfl⟩) rfl rfl rfl (EC.of (by intro _ _ h; cases h) (.inl rfl) (WV.call fn83 rfl (unit_ok (W := W) k (by omega)))) (fun v H' h => .inl (h.1)) ?_
      rintro v310 H311 ⟨hx312, ho313⟩
      have X315 := Ext.trans X302 hx312
      have X316 := Ext.trans X303 hx312
      have ho317 := ho307.ext hx312
      have hb318 := hb308.ext hx312
      have hb319 := hb309.ext hx312
      have X320 := Ext.refl H311
      have hr314 : RdK kI W H311 _ v310 (unitL (k : Int).toNat 0) := ho313.rd
      have y321 := hb318.lt
      have y322 := hb319.lt
      have o323 := X315.bd
      have o324 := X316.bd
      have o325 := X320.bd
      refine Dr.eff 4 _ _ rfl (by intro d h; cases h; exact ⟨rfl, rfl⟩) rfl rfl rfl (EC.of (by intro _ _ h; cases h) (.inl rfl) (WV.call fn82 rfl (comb_ok p k ho317 hr314 (K := k.toNat) hF.q hk0 hP1 (by omega) (by rw [partL_len]; omega) (unitL_in (by omega) _ _) (unitL_len _ _)))) (fun v H' h => .inl (h.2)) ?_
      rintro _ H327 ⟨⟨u326, rfl, hv329⟩, hx328⟩
      have X330 := Ext.trans X315 hx328
      have X331 := Ext.trans X316 hx328
      have X332 := Ext.trans X320 hx328
      have ho333 := ho317.ext hx328
      have hb334 := hb318.ext hx328
      have hb335 := hb319.ext hx328
      have X336 := Ext.refl H327
      have hr337 := hv329.rd
      refine Dr.read 5 _ 25 _ rfl rfl rfl rfl rfl (RV.of (by intro _ _ h; cases h) (.inl rfl) (fun _ xd => HV.mv rfl)) ?_
      refine Dr.read 6 _ 31 _ rfl rfl rfl rfl rfl (RV.of (by intro _ _ h; cases h) (.inl rfl) (fun _ xd => HV.ex rfl rfl)) ?_
      refine Dr.read 7 _ 32 _ rfl rfl rfl rfl rfl (RV.of (by intro _ _ h; cases h) (.inl rfl) (fun _ xd => HV.ex rfl rfl)) ?_
      refine Dr.read 8 _ 10 _ rfl rfl rfl rfl rfl (RV.of (by intro _ _ h; cases h) (.inl rfl) (fun _ xd => HV.as rfl)) ?_
      refine Dr.read 9 _ 11 _ rfl rfl rfl rfl rfl (RV.of (by intro _ _ h; cases h) (.inl rfl) (fun _ xd => HV.as rfl)) ?_
      refine Dr.fin rfl ?_
      refine nrm_and ?_
      refine AW.seq ?_
      refine AW.rs ?_
      refine AL.val rfl (.inl rfl) (HV.mv rfl) ?_
      refine AL.val rfl (.inl rfl) (HV.not rfl) ?_
      refine AL.nx ?_
      refine AW.cond rfl (fun c338 => ?_) (fun c338 => ?_)
      · -- then
        refine AW.rs ?_
        refine AL.val rfl (.inl rfl) (HV.as rfl) ?_
        refine AL.val rfl (.inl rfl) (HV.as rfl) ?_
        refine AL.nx ?_
        refine AW.ret ?_
        refine ret_and ?_
        refine post_two rfl rfl rfl ?_ (.inr rfl)
        have hb : (openX p k o l g).2 = false := bnot_t c338; exact ⟨by unfold rbV rbC; rw [if_neg (fun q => by have q2 := q.2.1; rw [hb] at q2; cases q2), if_pos (show withC n o p k l g h = 0 by omega), if_neg (fun q => by rw [hb] at q; cases q)], X330⟩
      · -- else
        refine AW.skip ?_
        refine nrm_and ?_
        refine AW.seq ?_
        refine AW.rs ?_
        have hox : (openX p k o l g).2 = true := bnot_f c338
        refine AL.val rfl (.inl rfl) (HV.lda (cs := [.int .i64 p, .int .i64 k, u286]) rfl va29 (at_cells hb335 rfl)) ?_
        refine AL.val rfl (.inl rfl) (HV.mv rfl) ?_
        have y339 := hb334.lt
        have y340 := hb335.lt
        have o341 := X330.bd
        have o342 := X331.bd
        have o343 := X332.bd
        have o344 := X336.bd
        refine AL.w rfl (.inl rfl) (WV.call fn75 rfl (implSol_ok p k ho333 (hrh.ext X330) hF.q hk0 hP1 (by omega) (by rw [partL_len]; omega) hh1 (by rw [partL_len]; exact hh2))) ?_
        rintro _ H346 ⟨⟨v345, rfl, hv348⟩, hx347⟩
        have X349 := Ext.trans X330 hx347
        have X350 := Ext.trans X331 hx347
        have X351 := Ext.trans X332 hx347
        have X352 := Ext.trans X336 hx347
        have ho353 := ho333.ext hx347
        have hb354 := hb334.ext hx347
        have hb355 := hb335.ext hx347
        have X356 := Ext.refl H346
        have hr357 := hv348.rd
        refine AL.val rfl (.inl rfl) (HV.mv rfl) ?_
        refine AL.val rfl (.inl rfl) (HV.ex rfl rfl) ?_
        refine AL.val rfl (.inl rfl) (HV.ex rfl rfl) ?_
        refine AL.val rfl (.inl rfl) (HV.as rfl) ?_
        refine AL.val rfl (.inl rfl) (HV.as rfl) ?_
        refine AL.nx ?_
        refine AW.rs ?_
        refine AL.val rfl (.inl rfl) (HV.mv rfl) ?_
        refine AL.val rfl (.inl rfl) (HV.not rfl) ?_
        refine AL.nx ?_
        refine AW.cond rfl (fun c358 => ?_) (fun c358 => ?_)
        · -- then
          refine AW.rs ?_
          refine AL.val rfl (.inl rfl) (HV.as rfl) ?_
          refine AL.val rfl (.inl rfl) (HV.as rfl) ?_
          refine AL.nx ?_
          refine AW.ret ?_
          refine ret_and ?_
          refine post_two rfl rfl rfl ?_ (.inr rfl)
          have hcb : conB n o p k l g h = (solM p k.toNat (besL (partL l (idxG o g)) [h] (partL l (idxG o g)).length)).2 := (by unfold conB; rw [if_pos (show withC n o p k l g h = 0 by omega)]); have hb := hcb.trans (bnot_t c358); exact ⟨by unfold rbV rbC; rw [if_neg (fun q => by have q2 := q.2.2; rw [hb] at q2; cases q2), if_pos (show withC n o p k l g h = 0 by omega), if_pos hox, if_neg (fun q => by rw [hb] at q; cases q)], X349⟩
        · -- else
          refine AW.skip ?_
          refine nrm_and ?_
          refine AW.rs ?_
          have hos : (solM p k.toNat (besL (partL l (idxG o g)) [h] (partL l (idxG o g)).length)).2 = true := bnot_f c358
          refine AL.val rfl (.inl rfl) (HV.fa fl29_0 rfl) ?_
          refine AL.val rfl (.inl rfl) (HV.ld rfl va2 (at_cell hb355 rfl)) ?_
          refine AL.val rfl (.inl rfl) (HV.mv rfl) ?_
          refine AL.val rfl (.inl rfl) (HV.mv rfl) ?_
          refine AL.w rfl (.inl rfl) (WV.call fn89 rfl (dot_ok (hr337.ext X352) (hrh.ext X349) hp hO1 hh1 ⟨(hO2 hox).trans hh2.symm, Nat.le_trans hO3 (by decide)⟩)) ?_
          rintro _ H359 ⟨rfl, hx360⟩
          have X361 := Ext.trans X349 hx360
          have X362 := Ext.trans X350 hx360
          have X363 := Ext.trans X351 hx360
          have X364 := Ext.trans X352 hx360
          have X365 := Ext.trans X356 hx360
          have ho366 := ho353.ext hx360
          have hb367 := hb354.ext hx360
          have hb368 := hb355.ext hx360
          refine AL.val rfl (.inl rfl) (HV.as rfl) ?_
          refine AL.val rfl (.inl rfl) (HV.as rfl) ?_
          refine AL.nx ?_
          refine AW.ret ?_
          refine post_two rfl rfl rfl ?_ (.inr rfl)
          have hcb : conB n o p k l g h = (solM p k.toNat (besL (partL l (idxG o g)) [h] (partL l (idxG o g)).length)).2 := (by unfold conB; rw [if_pos (show withC n o p k l g h = 0 by omega)]); have hb := hcb.trans hos; exact ⟨by unfold rbV rbC; rw [if_pos ⟨(show withC n o p k l g h = 0 by omega), hox, hb⟩, if_pos (show withC n o p k l g h = 0 by omega), if_pos hox, if_pos hb]; (try rfl), X361⟩

end Go.Proofs.Yticobjbjejpomaa.VC

