/- Walks. -/
import Derived.Test.YticobjbjejpomaaZF21
set_option linter.unusedVariables false
set_option linter.unusedSimpArgs false
namespace Go.Proofs.Yticobjbjejpomaa.VC
open Go Go.RowKit
theorem pow_zero {p a : Int} (hp : 2 ≤ p) : (1 : Int) = powM p a 0 := (Int.emod_eq_of_lt (by decide) (by omega)).symm
variable {W : World} {H : Hp}

set_option maxRecDepth 100000 in
theorem power_ok (p a n : Int) (hp : 2 ≤ p ∧ p ≤ 31) (ha : 0 ≤ a ∧ a ≤ 31) (hn : 0 ≤ n ∧ n ≤ 31) : ACalls Try.prog W 161 #[.int .i64 p, .int .i64 a, .int .i64 n] H (fun r H' => r = .int .i64 (powM p a n.toNat) ∧ Ext H H') := by
  refine ACalls.of (args := [.int .i64 p, .int .i64 a, .int .i64 n]) Try.func161 rfl rfl ?_
  have X0 := Ext.refl H
  refine AW.rs ?_
  refine AL.val rfl (.inl rfl) (HV.as rfl) ?_
  refine AL.nx ?_
  refine AW.rs ?_
  refine AL.val rfl (.inl rfl) (HV.mv rfl) ?_
  refine AL.val rfl (.inl rfl) (HV.rem rfl rfl (by omega)) ?_
  refine AL.val rfl (.inl rfl) (HV.as rfl) ?_
  refine AL.nx ?_
  refine AW.seq ?_
  refine AW.rs ?_
  refine AL.val rfl (.inl rfl) (HV.mv rfl) ?_
  refine AL.val rfl (.inl rfl) (HV.mv rfl) ?_
  refine AL.nx ?_
  refine AW.block ?_
  refine AW.loop (σ := Nat) (fun i => [(0, .int .i64 p), (1, .int .i64 a), (6, .int .i64 0), (10, .int .i64 n), (7, .int .i64 (powM p a i)), (11, .int .i64 (i : Int))]) (fun i H' => Ext H H' ∧ (i : Int) ≤ n ∧ True) (fun i => n.toNat - i) 0 ⟨X0, by omega, trivial⟩ ⟨rfl, rfl, rfl, rfl, rfl, rfl, trivial⟩ ?_
  rintro i H1 ⟨X2, hi, _⟩
  refine AW.rs ?_
  refine AL.val rfl (.inl rfl) (HV.lti rfl rfl) ?_
  refine AL.nx ?_
  refine AW.seq ?_
  refine AW.ifd rfl (fun c3 => ?_) (fun c3 => ?_)
  · -- then
    refine AW.skip ?_
    refine nrm_and ?_
    refine AW.seq ?_
    refine AW.block ?_
    refine AW.reg ?_
    refine AL.val rfl (.inl rfl) (HV.mv rfl) ?_
    refine AL.val rfl (.inl rfl) (HV.mv rfl) ?_
    refine AL.val rfl (.inl rfl) (HV.mul rfl rfl (by have q := powM_in (a := a) (show 0 < p by omega) i; have := mul31 (a := powM p a i) (b := a) (by omega) (by omega) (by omega) (by omega); omega)) ?_
    refine AL.val rfl (.inl rfl) (HV.mv rfl) ?_
    refine AL.val rfl (.inl rfl) (HV.rem rfl rfl (by have q := powM_in (a := a) (show 0 < p by omega) i; have := mul31 (a := powM p a i) (b := a) (by omega) (by omega) (by omega) (by omega); omega)) ?_
    refine AL.val rfl (.inl rfl) (HV.as rfl) ?_
    refine AL.nil ?_
    refine nrm_blk (nrm_and ?_)
    refine AW.reg ?_
    refine AL.val rfl (.inl rfl) (HV.add rfl rfl (by omega)) ?_
    refine AL.val rfl (.inl rfl) (HV.mv rfl) ?_
    refine AL.nil ?_
    refine nrm_and ?_
    exact ⟨i + 1, ⟨X2, by omega, trivial⟩, by first | omega | (dsimp only; omega), ⟨rfl, rfl, rfl, rfl, rfl, rfl, trivial⟩⟩
  · -- else
    refine AW.exit ?_
    refine ex_and (ex_and (ex_blk ?_))
    refine nrm_and ?_
    refine AW.rs ?_
    refine AL.val rfl (.inl rfl) (HV.mv rfl) ?_
    refine AL.val rfl (.inl rfl) (HV.as rfl) ?_
    refine AL.nx ?_
    refine AW.ret ?_
    refine post_one rfl rfl ?_ (.inr rfl)
    exact ⟨by have e : i = n.toNat := (by omega); rw [e], X2⟩

set_option maxRecDepth 100000 in
theorem l03Power_ok (p a n : Int) (hp : 2 ≤ p ∧ p ≤ 31) (ha : 0 ≤ a ∧ a ≤ 31) (hn : 0 ≤ n ∧ n ≤ 31) : ACalls Try.prog W 197 #[.int .i64 p, .int .i64 a, .int .i64 n] H (fun r H' => r = .int .i64 (powM p a n.toNat) ∧ Ext H H') := by
  refine ACalls.of (args := [.int .i64 p, .int .i64 a, .int .i64 n]) Try.func197 rfl rfl ?_
  have X0 := Ext.refl H
  refine AW.rs ?_
  refine AL.val rfl (.inl rfl) (HV.as rfl) ?_
  refine AL.nx ?_
  refine AW.rs ?_
  refine AL.val rfl (.inl rfl) (HV.as rfl) ?_
  refine AL.nx ?_
  refine AW.seq ?_
  refine AW.block ?_
  refine AW.loop (σ := Nat × Int × Int) (fun ⟨i, x, m⟩ => [(0, .int .i64 p), (1, .int .i64 a), (6, .int .i64 0), (2, .int .i64 m), (7, .int .i64 x)]) (fun ⟨i, x, m⟩ H' => Ext H H' ∧ (i : Int) ≤ n ∧ x = powM p a i ∧ m = n - (i : Int) ∧ True) (fun ⟨i, x, m⟩ => n.toNat - i) (0, 1, n) ⟨X0, by omega, pow_zero hp.1, by omega, trivial⟩ ⟨rfl, rfl, rfl, rfl, rfl, trivial⟩ ?_
  rintro ⟨i, x, m⟩ H1 ⟨X2, hi, hx, hm, _⟩
  have hxb := powM_in (a := a) (show 0 < p by omega) i
  rw [← hx] at hxb
  have hxm := mul31 (a := x) (b := a) (by omega) (by omega) (by omega) (by omega)
  refine AW.seq ?_
  refine AW.rs ?_
  refine AL.val rfl (.inl rfl) (HV.mv rfl) ?_
  refine AL.val rfl (.inl rfl) (HV.gti rfl rfl) ?_
  refine AL.nx ?_
  refine AW.ifd rfl (fun c3 => ?_) (fun c3 => ?_)
  · -- then
    refine AW.skip ?_
    refine nrm_and ?_
    refine AW.seq ?_
    refine AW.block ?_
    refine AW.reg ?_
    refine AL.val rfl (.inl rfl) (HV.mv rfl) ?_
    refine AL.val rfl (.inl rfl) (HV.mv rfl) ?_
    refine AL.val rfl (.inl rfl) (HV.mul rfl rfl (by omega)) ?_
    refine AL.val rfl (.inl rfl) (HV.mv rfl) ?_
    refine AL.val rfl (.inl rfl) (HV.rem rfl rfl (by omega)) ?_
    refine AL.val rfl (.inl rfl) (HV.as rfl) ?_
    refine AL.nil ?_
    refine nrm_blk (nrm_and ?_)
    refine AW.reg ?_
    refine AL.val rfl (.inl rfl) (HV.mv rfl) ?_
    refine AL.val rfl (.inl rfl) (HV.sub rfl rfl (by omega)) ?_
    refine AL.val rfl (.inl rfl) (HV.as rfl) ?_
    refine AL.nil ?_
    refine nrm_and ?_
    exact ⟨(i + 1, (x * a) % p, m - 1), ⟨X2, by omega, by rw [hx]; rfl, by omega, trivial⟩, by first | omega | (dsimp only; omega), ⟨rfl, rfl, rfl, rfl, rfl, trivial⟩⟩
  · -- else
    refine AW.exit ?_
    refine ex_and (ex_and (ex_blk ?_))
    refine nrm_and ?_
    refine AW.rs ?_
    refine AL.val rfl (.inl rfl) (HV.mv rfl) ?_
    refine AL.val rfl (.inl rfl) (HV.as rfl) ?_
    refine AL.nx ?_
    refine AW.ret ?_
    refine post_one rfl rfl ?_ (.inr rfl)
    exact ⟨by have e : i = n.toNat := (by omega); rw [hx, e], X2⟩

set_option maxRecDepth 100000 in
theorem add_of {d : Nat} (ih : ∀ {W : World} {HB H : Hp} {okg av : Nat → Prop} {z : GT d} {a l : Int} {v : Value} {bm : Nat} {p n : Int} {s : MS} {vl : Value} {x : List Int} (hWB : W.heap.size ≤ HB.bd) (hK : (kG d).rd W HB okg z [.int .i64 a, .int .i64 l, v]) (hX : Ext HB H) (hM : Mk W H 134 22 bm (fun y => av y ∨ some y = vl.ownBlock) p s) (hl : OwnK kI 2 W H (fun y => some y = vl.ownBlock) vl x) (hav : ∀ y, y < HB.bd → av y) (hav2 : ∀ y, av y → y < H.bd) (hla : ∀ y, av y → some y ≠ vl.ownBlock) (hf : fmG n d z) (hw : ¬ wdG p d z) (hp : 2 ≤ p ∧ p ≤ 31) (hx : 1 ≤ x.length ∧ x.length ≤ s.1) (hc : s.1 + 2 * szG d z ≤ 140 ∧ s.2.1.length + szG d z ≤ 70 ∧ s.2.2.length + szG d z ≤ 70), ACalls Try.prog W 107 #[.pointer (some ⟨bm, 0, none⟩), .agg #[.int .i64 a, .int .i64 l, v], vl] H (fun r H' => r = .tuple #[] ∧ Mk W H' 134 22 bm av p (nodeG (kdI p) d z x s) ∧ But (fun y => ¬ av y) H H')) {HB : Hp} {okg av : Nat → Prop} {h l : Int} {v : Value} {ks : List (GT d)} {bm : Nat} {p n : Int} {s : MS} {vl : Value} {x : List Int} (hWB : W.heap.size ≤ HB.bd) (hr : RdK (kG d) W HB okg v ks) (hX : Ext HB H) (hM : Mk W H 134 22 bm (fun y => av y ∨ some y = vl.ownBlock) p s) (hl : OwnK kI 2 W H (fun y => some y = vl.ownBlock) vl x) (hav : ∀ y, y < HB.bd → av y) (hav2 : ∀ y, av y → y < H.bd) (hla : ∀ y, av y → some y ≠ vl.ownBlock) (hf : fmG n (d + 1) (h, l, ks)) (hw : ¬ wdG p (d + 1) (h, l, ks)) (hp : 2 ≤ p ∧ p ≤ 31) (hx : 1 ≤ x.length ∧ x.length ≤ s.1) (hc : s.1 + 2 * szG (d + 1) (h, l, ks) ≤ 140 ∧ s.2.1.length + szG (d + 1) (h, l, ks) ≤ 70 ∧ s.2.2.length + szG (d + 1) (h, l, ks) ≤ 70) : ACalls Try.prog W 107 #[.pointer (some ⟨bm, 0, none⟩), .agg #[.int .i64 h, .int .i64 l, v], vl] H (fun r H' => r = .tuple #[] ∧ Mk W H' 134 22 bm av p (nodeG (kdI p) (d + 1) (h, l, ks) x s) ∧ But (fun y => ¬ av y) H H') := by
  refine ACalls.of (args := [.pointer (some ⟨bm, 0, none⟩), .agg #[.int .i64 h, .int .i64 l, v], vl]) Try.func107 rfl rfl ?_
  have X0 := Ext.refl H
  have hm1 := hr.max
  have hm2 := (hl.rd).max
  have sl59 : SlT Try.prog 59 61 (.agg #[(.int .i64 0), (.int .i64 0), (.slice none 0 0)]) (kG d).sz 40 := by rw [kG_sz]; exact sl59
  have CH0 := But.refl (fun y => ¬ av y) H
  refine AW.rs ?_
  refine AL.w rfl (.inl rfl) (WV.bx rfl rfl) ?_
  rintro _ H4 ⟨b3, rfl, hx5, hn6, hb7⟩
  have o8 := Nat.le_trans X0.bd hn6
  have o9 := Nat.le_trans hX.bd hn6
  have ch10 := But.trans CH0 (Ext.but hx5 _)
  have X11 := Ext.trans X0 hx5
  have X12 := Ext.trans hX hx5
  have X13 := Ext.refl H4
  refine AL.nx ?_
  refine AW.seq ?_
  refine AW.rs ?_
  refine AL.val rfl (.inl rfl) (HV.lda (cs := [.int .i64 h, .int .i64 l, v]) rfl va61 (at_cells hb7 rfl)) ?_
  refine AL.w rfl (.inl rfl) (WV.call fn160 rfl (isLeaf_ok (hr.ext X12))) ?_
  rintro _ H14 ⟨rfl, hx15⟩
  have ch16 := But.trans ch10 (Ext.but hx15 _)
  have X17 := Ext.trans X11 hx15
  have X18 := Ext.trans X12 hx15
  have X19 := Ext.trans X13 hx15
  have hb20 := hb7.ext hx15
  refine AL.nx ?_
  refine AW.ifd rfl (fun c21 => ?_) (fun c21 => ?_)
  · -- then
    refine AW.seq ?_
    refine AW.draw' [0, 0, 2, 6, 14, 0, 32, 96, 254, 511, 1023, 2047] mixed (by rfl) ?_
    have X22 := Ext.refl H14
    obtain ⟨lab, vo, vr, vs, hM1, hM2⟩ := (hM.young).ext X17
    have hge : ∀ y k, lab y = k + 1 → HB.bd ≤ y := fun y k q => Nat.le_of_not_lt (fun q2 => by have := hM2 y (.inl (.inl (hav y q2))); omega)
    have hoO := hM1.own.narrow (ok' := fun y => HB.bd ≤ y ∧ some y = vo.ownBlock) kI_flat (fun y q => ⟨hge y 1 (hM1.own.blk y q).1, q⟩)
    have hoR := hM1.raw.narrow (ok' := fun y => HB.bd ≤ y ∧ some y = vr.ownBlock) kV_flat (fun y q => ⟨hge y 2 (hM1.raw.blk y q).1, q⟩)
    have hdis : ∀ y, some y = vo.ownBlock → some y = vr.ownBlock → False := fun y h1 h2 => by have q1 := (hM1.own.blk y h1).1; have q2 := (hM1.raw.blk y h2).1; omega
    have hab := hM1.at_
    have hmO := hM1.own.rd.max
    have hmR := hM1.raw.rd.max
    have hmN := hM1.len
    have hapO : ∀ y, some y = vo.ownBlock → y = bm → False := fun y h1 h2 => by have q1 := (hM1.own.blk y h1).1; have q2 := hM1.lb; rw [h2] at q1; omega
    have hapR : ∀ y, some y = vr.ownBlock → y = bm → False := fun y h1 h2 => by have q1 := (hM1.raw.blk y h1).1; have q2 := hM1.lb; rw [h2] at q1; omega
    have hch := But.refl (fun y => y = bm ∨ some y = vo.ownBlock ∨ some y = vr.ownBlock) H14
    have hbpO : ∀ y, some y = vo.ownBlock → y = b3 → False := fun y h1 h2 => by have q1 := (hM1.own.blk y h1).1; have q2 := hM2 y (.inr (by rw [h2]; exact o8)); omega
    have hbpR : ∀ y, some y = vr.ownBlock → y = b3 → False := fun y h1 h2 => by have q1 := (hM1.raw.blk y h1).1; have q2 := hM2 y (.inr (by rw [h2]; exact o8)); omega
    have hne4 : b3 ≠ bm := fun e => by have q1 := hM1.lb; have q2 := hM2 bm (.inr (by rw [← e]; exact o8)); omega
    have hsz1 : szG (d + 1) (h, l, ks) = 1 + szL d ks := szG_succ
    refine Dr.read 0 _ 13 _ rfl rfl rfl rfl rfl (RV.of (by intro _ _ h; cases h) (.inl rfl) (fun _ xd => HV.mv rfl)) ?_
    refine Dr.read 1 _ 14 _ rfl rfl rfl rfl rfl (RV.of (by intro _ _ h; cases h) (.inl rfl) (fun _ xd => HV.mv rfl)) ?_
    refine Dr.read 2 _ 15 _ rfl rfl rfl rfl rfl (RV.of (by intro _ _ h; cases h) (.inl rfl) (fun _ xd => HV.nc rfl)) ?_
    refine Dr.read 3 _ 16 _ rfl rfl rfl rfl rfl (RV.of (by intro _ _ h; cases h) (.inl rfl) (fun _ xd => HV.fa fl134_2 rfl)) ?_
    refine Dr.read 4 _ 17 _ rfl rfl rfl rfl rfl (RV.of (by intro _ _ h; cases h) (.inl rfl) (fun _ xd => HV.ld rfl va22 (rdc_ext xd (at_cell_add (j := 2) hab rfl)))) ?_
    refine Dr.read 5 _ 18 _ rfl rfl rfl rfl rfl (RV.of (by intro _ _ h; cases h) (.inl rfl) (fun _ xd => HV.fa fl61_0 rfl)) ?_
    refine Dr.read 6 _ 19 _ rfl rfl rfl rfl rfl (RV.of (by intro _ _ h; cases h) (.inl rfl) (fun _ xd => HV.ld rfl va2 (rdc_ext xd (at_cell hb20 rfl)))) ?_
    have y23 := hb20.lt
    have y24 := hab.lt
    have o25 := X17.bd
    have o26 := X18.bd
    have o27 := X19.bd
    have o28 := X22.bd
    have a29 := hoO.ltb
    have a30 := hoR.ltb
    refine Dr.eff 7 _ _ rfl (by intro d h; cases h; exact ⟨rfl, rfl⟩) rfl rfl rfl (EC.of (by intro _ _ h; cases h) (.inl rfl) (WV.bsK (K := kI) (l := ([h] : List Int)) (css := [[.int .i64 h]]) sl22 rfl rfl (by first | rfl | (simp [Instr.fill, Value.cells, kI, kB, kU, kU8, kS, Kd.sc]; done) | (simp [Instr.fill, Value.cells, kI, kB, kU, kU8, kS, Kd.sc, rng1, rng2, rng3, rng4, kP])) rfl (segs_cons rfl segs_nil))) (fun v H' h => .inl (h.1)) ?_
    rintro v31 H32 ⟨hx33, ho34⟩
    have ch35 := But.trans hch (Ext.but hx33 _)
    have X36 := Ext.trans X17 hx33
    have X37 := Ext.trans X18 hx33
    have X38 := Ext.trans X19 hx33
    have X39 := Ext.trans X22 hx33
    have ho40 := hoO.ext hx33
    have ho41 := hoR.ext hx33
    have hb42 := hb20.ext hx33
    have hb43 := hab.ext hx33
    have X45 := Ext.refl H32
    refine Dr.eff 8 _ _ rfl (by intro d h; cases h; exact ⟨rfl, rfl⟩) rfl rfl rfl (EC.of (by intro _ _ h; cases h) (.inl rfl) (WV.apk sl22 rfl rfl ho40 ho34.rd (by simp; omega) (by simp; omega) (fun b hb _ e => Nat.lt_irrefl _ (Nat.lt_of_lt_of_le (a29 b e) hb)))) ?_ ?_
    · -- kept
      rintro v46 H47 ⟨hx48, ho49, hb50⟩
      have ho51 := ho49.narrow (ok' := fun b => HB.bd ≤ b ∧ some b = v46.ownBlock) kI_flat (fun b q => ⟨(hb50 b q).elim (fun e => (ho40.blk b e).1.1) (fun e => Nat.le_trans X37.bd e), q⟩)
      have d52 : ∀ b, some b = vr.ownBlock → some b = v46.ownBlock → False := fun b h1 h2 => (hb50 b h2).elim (fun e => (fun b h1 h2 => hdis b h2 h1) b h1 e) (fun e => by have := (ho41.blk b h1).2.1; omega)
      have a53 : ∀ b', some b' = v46.ownBlock → b' = b3 → False := fun b' h1 h2 => (hb50 b' h1).elim (fun e => hbpO b' e h2) (fun e => by have := hb42.lt; omega)
      have a54 : ∀ b', some b' = v46.ownBlock → b' = bm → False := fun b' h1 h2 => (hb50 b' h1).elim (fun e => hapO b' e h2) (fun e => by have := hb43.lt; omega)
      have ch55 := But.trans ch35 (But.mono hx48 (fun x e => .inr (.inl e)))
      have q57 := Nat.le_trans X36.bd hx48.bd
      have q59 := Nat.le_trans X37.bd hx48.bd
      have q61 := Nat.le_trans X38.bd hx48.bd
      have q63 := Nat.le_trans X39.bd hx48.bd
      have q65 := Nat.le_trans X45.bd hx48.bd
      have ho66 := ho41.but hx48 (fun b h1 _ h2 => (fun b h1 h2 => hdis b h2 h1) b h1.2 h2) (fun b hb => (ho40.blk b hb).2.2)
      have ho67 := ho34.but hx48 (fun b hb _ e => Nat.lt_irrefl _ (Nat.lt_of_lt_of_le (a29 b e) hb)) (fun b hb => (ho40.blk b hb).2.2)
      have hb68 := hb42.but hx48 (fun e => hbpO _ e rfl)
      have hb69 := hb43.but hx48 (fun e => hapO _ e rfl)
      refine .inr (.inr ?_)
      exact (kept_cons (.inl rfl) (kept_cons (.inl rfl) (kept_cons (.inl rfl) (kept_cons (.inl rfl) (kept_cons (.inl rfl) (kept_cons (.inl rfl) (kept_cons (.inr ⟨_, _, _, rfl, rfl, rfl, (RV.of (by intro _ _ h; cases h) (.inl rfl) (fun _ xd => HV.mv rfl))⟩) kept_nil)))))))
    rintro v46 H47 ⟨hx48, ho49, hb50⟩
    have ho51 := ho49.narrow (ok' := fun b => HB.bd ≤ b ∧ some b = v46.ownBlock) kI_flat (fun b q => ⟨(hb50 b q).elim (fun e => (ho40.blk b e).1.1) (fun e => Nat.le_trans X37.bd e), q⟩)
    have d70 : ∀ b, some b = vr.ownBlock → some b = v46.ownBlock → False := fun b h1 h2 => (hb50 b h2).elim (fun e => (fun b h1 h2 => hdis b h2 h1) b h1 e) (fun e => by have := (ho41.blk b h1).2.1; omega)
    have a71 : ∀ b', some b' = v46.ownBlock → b' = b3 → False := fun b' h1 h2 => (hb50 b' h1).elim (fun e => hbpO b' e h2) (fun e => by have := hb42.lt; omega)
    have a72 : ∀ b', some b' = v46.ownBlock → b' = bm → False := fun b' h1 h2 => (hb50 b' h1).elim (fun e => hapO b' e h2) (fun e => by have := hb43.lt; omega)
    have ch73 := But.trans ch35 (But.mono hx48 (fun x e => .inr (.inl e)))
    have q75 := Nat.le_trans X36.bd hx48.bd
    have q77 := Nat.le_trans X37.bd hx48.bd
    have q79 := Nat.le_trans X38.bd hx48.bd
    have q81 := Nat.le_trans X39.bd hx48.bd
    have q83 := Nat.le_trans X45.bd hx48.bd
    have ho84 := ho41.but hx48 (fun b h1 _ h2 => (fun b h1 h2 => hdis b h2 h1) b h1.2 h2) (fun b hb => (ho40.blk b hb).2.2)
    have ho85 := ho34.but hx48 (fun b hb _ e => Nat.lt_irrefl _ (Nat.lt_of_lt_of_le (a29 b e) hb)) (fun b hb => (ho40.blk b hb).2.2)
    have hb86 := hb42.but hx48 (fun e => hbpO _ e rfl)
    have hb87 := hb43.but hx48 (fun e => hapO _ e rfl)
    refine Dr.read 9 _ 22 _ rfl rfl rfl rfl rfl (RV.of (by intro _ _ h; cases h) (.inl rfl) (fun _ xd => HV.nc rfl)) ?_
    refine Dr.read 10 _ 23 _ rfl rfl rfl rfl rfl (RV.of (by intro _ _ h; cases h) (.inl rfl) (fun _ xd => HV.fa fl134_2 rfl)) ?_
    refine Dr.eff 11 _ _ rfl (by intro d h; cases h) rfl rfl rfl (EC.of (by intro _ _ h; cases h) (.inl rfl) (WV.st rfl rfl va22 (sl_size ho51.rd.isSl) hb87 (Nat.le_of_ble_eq_true rfl) (sl_one ho51.rd.isSl))) (fun v H' h => .inr (.inl rfl)) ?_
    rintro _ H88 ⟨hx89, hb90⟩
    rw [sl_cells ho51.rd.isSl] at hb90
    have ch91 := But.trans ch73 (But.mono hx89 (fun x e => .inl e))
    have q92 := Nat.le_trans q75 hx89.bd
    have q93 := Nat.le_trans q77 hx89.bd
    have q94 := Nat.le_trans q79 hx89.bd
    have q95 := Nat.le_trans q81 hx89.bd
    have q96 := Nat.le_trans q83 hx89.bd
    have ho97 := ho51.but hx89 (fun b hb _ e => a72 b hb.2 e) (fun z_ hz_ => by rw [hz_]; exact hb87.w)
    have ho98 := ho84.but hx89 (fun b hb _ e => hapR b hb.2 e) (fun z_ hz_ => by rw [hz_]; exact hb87.w)
    have ho99 := ho85.but hx89 (fun b hb _ e => by have hb' : H14.bd ≤ b := hb; have e' : b = bm := e; omega) (fun z_ hz_ => by rw [hz_]; exact hb87.w)
    have hb100 := hb86.but hx89 hne4
    have hb101 : At W H88 bm ⟨134, [.int .i64 p, .int .i64 (s.1 : Int), v46, vr], 4⟩ := hb90
    refine Dr.fin rfl ?_
    refine nrm_and ?_
    refine AW.rs ?_
    refine AL.val rfl (.inl rfl) (HV.mv rfl) ?_
    refine AL.val rfl (.inl rfl) (HV.mv rfl) ?_
    refine AL.val rfl (.inl rfl) (HV.nc rfl) ?_
    refine AL.val rfl (.inl rfl) (HV.fa fl134_3 rfl) ?_
    refine AL.val rfl (.inl rfl) (HV.ld rfl va23 (at_cell_add (j := 3) hb101 rfl)) ?_
    refine AL.val rfl (.inl rfl) (HV.mv rfl) ?_
    have X102 := Ext.refl H88
    have y103 := hb100.lt
    have y104 := hb101.lt
    have o105 := X102.bd
    have a106 := ho97.ltb
    have a107 := ho98.ltb
    have a108 := ho99.ltb
    have hc113 : vl.cells = #[vl] := by obtain ⟨A, c, e⟩ := (hl.rd).isSl; rw [e]; rfl
    refine AL.w rfl (.inl rfl) (WV.bsK (K := kV) (l := [vl]) (css := [[vl]]) sl23 rfl rfl (by simp [Instr.fill, hc113, kV, rng1]) rfl (segs_cons ⟨rfl, _, (hl.rd).isSl⟩ segs_nil)) ?_
    rintro v109 H110 ⟨hx111, ho112⟩
    have ch114 := But.trans ch91 (Ext.but hx111 _)
    have q115 := Nat.le_trans q92 hx111.bd
    have q116 := Nat.le_trans q93 hx111.bd
    have q117 := Nat.le_trans q94 hx111.bd
    have q118 := Nat.le_trans q95 hx111.bd
    have q119 := Nat.le_trans q96 hx111.bd
    have X120 := Ext.trans X102 hx111
    have ho121 := ho97.ext hx111
    have ho122 := ho98.ext hx111
    have ho123 := ho99.ext hx111
    have hb124 := hb100.ext hx111
    have hb125 := hb101.ext hx111
    have X127 := Ext.refl H110
    refine AL.w rfl (.inl rfl) (WV.apk sl23 rfl rfl ho122 ho112.rd (by simp; omega) (by simp; omega) (fun b hb _ e => Nat.lt_irrefl _ (Nat.lt_of_lt_of_le (a107 b e) hb))) ?_
    rintro v128 H129 ⟨hx130, ho131, hb132⟩
    have ho133 := ho131.narrow (ok' := fun b => HB.bd ≤ b ∧ some b = v128.ownBlock) kV_flat (fun b q => ⟨(hb132 b q).elim (fun e => (ho122.blk b e).1.1) (fun e => Nat.le_trans q116 e), q⟩)
    have d134 : ∀ b, some b = v46.ownBlock → some b = v128.ownBlock → False := fun b h1 h2 => (hb132 b h2).elim (fun e => (fun b h1 h2 => d70 b h2 h1) b h1 e) (fun e => by have := (ho121.blk b h1).2.1; omega)
    have a135 : ∀ b', some b' = v128.ownBlock → b' = b3 → False := fun b' h1 h2 => (hb132 b' h1).elim (fun e => hbpR b' e h2) (fun e => by have := hb124.lt; omega)
    have a136 : ∀ b', some b' = v128.ownBlock → b' = bm → False := fun b' h1 h2 => (hb132 b' h1).elim (fun e => hapR b' e h2) (fun e => by have := hb125.lt; omega)
    have ch137 := But.trans ch114 (But.mono hx130 (fun x e => .inr (.inr e)))
    have q138 := Nat.le_trans q115 hx130.bd
    have q139 := Nat.le_trans q116 hx130.bd
    have q140 := Nat.le_trans q117 hx130.bd
    have q141 := Nat.le_trans q118 hx130.bd
    have q142 := Nat.le_trans q119 hx130.bd
    have q144 := Nat.le_trans X120.bd hx130.bd
    have q146 := Nat.le_trans X127.bd hx130.bd
    have ho147 := ho121.but hx130 (fun b h1 _ h2 => (fun b h1 h2 => d70 b h2 h1) b h1.2 h2) (fun b hb => (ho122.blk b hb).2.2)
    have ho148 := ho123.but hx130 (fun b hb _ e => Nat.lt_irrefl _ (Nat.lt_of_lt_of_le (a30 b e) hb)) (fun b hb => (ho122.blk b hb).2.2)
    have ho149 := ho112.but hx130 (fun b hb _ e => Nat.lt_irrefl _ (Nat.lt_of_lt_of_le (a107 b e) hb)) (fun b hb => (ho122.blk b hb).2.2)
    have hb150 := hb124.but hx130 (fun e => hbpR _ e rfl)
    have hb151 := hb125.but hx130 (fun e => hapR _ e rfl)
    refine AL.val rfl (.inl rfl) (HV.nc rfl) ?_
    refine AL.val rfl (.inl rfl) (HV.fa fl134_3 rfl) ?_
    refine AL.w0 (.inl rfl) (WV.st rfl rfl va23 (sl_size ho133.rd.isSl) hb151 (Nat.le_of_ble_eq_true rfl) (sl_one ho133.rd.isSl)) ?_
    rintro _ H152 ⟨hx153, hb154⟩
    rw [sl_cells ho133.rd.isSl] at hb154
    have ch155 := But.trans ch137 (But.mono hx153 (fun x e => .inl e))
    have q156 := Nat.le_trans q138 hx153.bd
    have q157 := Nat.le_trans q139 hx153.bd
    have q158 := Nat.le_trans q140 hx153.bd
    have q159 := Nat.le_trans q141 hx153.bd
    have q160 := Nat.le_trans q142 hx153.bd
    have q161 := Nat.le_trans q144 hx153.bd
    have q162 := Nat.le_trans q146 hx153.bd
    have ho163 := ho147.but hx153 (fun b hb _ e => a72 b hb.2 e) (fun z_ hz_ => by rw [hz_]; exact hb151.w)
    have ho164 := ho133.but hx153 (fun b hb _ e => a136 b hb.2 e) (fun z_ hz_ => by rw [hz_]; exact hb151.w)
    have ho165 := ho148.but hx153 (fun b hb _ e => by have hb' : H14.bd ≤ b := hb; have e' : b = bm := e; omega) (fun z_ hz_ => by rw [hz_]; exact hb151.w)
    have ho166 := ho149.but hx153 (fun b hb _ e => by have hb' : H88.bd ≤ b := hb; have e' : b = bm := e; omega) (fun z_ hz_ => by rw [hz_]; exact hb151.w)
    have hb167 := hb150.but hx153 hne4
    have hb168 : At W H152 bm ⟨134, [.int .i64 p, .int .i64 (s.1 : Int), v46, v128], 4⟩ := hb154
    refine AL.nx ?_
    refine AW.ret ?_
    refine ret_and ?_
    refine post_none rfl ?_ (.inr rfl)
    have hLL := Mkr.leaf (a := h) hM1 (fun y q => hM2 y (.inl q)) (fun y q => Nat.lt_of_lt_of_le (hav2 y q) X17.bd) (hl.ext X17) hla ch155 hb168 (ho163.okk (fun y q _ => q.2)) (ho164.okk (fun y q _ => q.2)) (fun y q => (hb50 y q).imp id (fun e => Nat.le_trans X39.bd e)) (fun y q => (hb132 y q).imp id (fun e => Nat.le_trans q118 e)) d134; exact ⟨rfl, by rw [nodeG_leaf (show ks.length = 0 by omega)]; exact hLL.1, But.trans (Ext.but X17 _) hLL.2⟩
  · -- else
    refine AW.skip ?_
    refine nrm_and ?_
    refine AW.rs ?_
    have X169 := Ext.refl H14
    obtain ⟨vo, vr, hat, ⟨no, hio⟩, ⟨nr, hir⟩, hnb, _, hset⟩ := ((hM.young).ext X17).box
    have hbl : bm < H.bd := Nat.lt_of_not_le (fun q => hnb (.inr q))
    have hBb : HB.bd ≤ bm := Nat.le_of_not_lt (fun q => hnb (.inl (.inl (hav bm q))))
    have hfn := hf
    rw [fmG_succ, if_neg (by omega)] at hfn
    have hsz1 : szG (d + 1) (h, l, ks) = 1 + szL d ks := szG_succ
    have hwn : ¬ (p ≤ (ks.length : Int)) ∧ ∀ z ∈ ks, ¬ wdG p d z := ⟨fun q => hw (wdG_succ.2 (.inl q)), fun z hz q => hw (wdG_succ.2 (.inr ⟨z, hz, q⟩))⟩
    have hll := szL_len ks (d := d)
    have hne4 : b3 ≠ bm := by have := o8; omega
    refine AL.val rfl (.inl rfl) (HV.mv rfl) ?_
    refine AL.val rfl (.inl rfl) (HV.nc rfl) ?_
    refine AL.val rfl (.inl rfl) (HV.fa fl134_1 rfl) ?_
    refine AL.val rfl (.inl rfl) (HV.ld rfl va2 (at_cell_add (j := 1) hat rfl)) ?_
    refine AL.val rfl (.inl rfl) (HV.as rfl) ?_
    refine AL.nx ?_
    refine AW.seq ?_
    refine AW.draw' [0, 1, 3, 7, 0, 16, 48, 127, 255, 511, 1023] mixed (by rfl) ?_
    refine Dr.read 0 _ 38 _ rfl rfl rfl rfl rfl (RV.of (by intro _ _ h; cases h) (.inl rfl) (fun _ xd => HV.mv rfl)) ?_
    refine Dr.read 1 _ 39 _ rfl rfl rfl rfl rfl (RV.of (by intro _ _ h; cases h) (.inl rfl) (fun _ xd => HV.nc rfl)) ?_
    refine Dr.read 2 _ 40 _ rfl rfl rfl rfl rfl (RV.of (by intro _ _ h; cases h) (.inl rfl) (fun _ xd => HV.fa fl134_1 rfl)) ?_
    refine Dr.read 3 _ 41 _ rfl rfl rfl rfl rfl (RV.of (by intro _ _ h; cases h) (.inl rfl) (fun _ xd => HV.ld rfl va2 (rdc_ext xd (at_cell_add (j := 1) hat rfl)))) ?_
    refine Dr.read 4 _ 42 _ rfl rfl rfl rfl rfl (RV.of (by intro _ _ h; cases h) (.inl rfl) (fun _ xd => HV.fa fl61_1 rfl)) ?_
    refine Dr.read 5 _ 43 _ rfl rfl rfl rfl rfl (RV.of (by intro _ _ h; cases h) (.inl rfl) (fun _ xd => HV.ld rfl va2 (rdc_ext xd (at_cell_add (j := 1) hb20 rfl)))) ?_
    refine Dr.read 6 _ 44 _ rfl rfl rfl rfl rfl (RV.of (by intro _ _ h; cases h) (.inl rfl) (fun _ xd => HV.sub rfl rfl (by omega))) ?_
    have e45 : (s.1 : Int) + (l - 1) = ((s.1 + (l - 1).toNat : Nat) : Int) := by omega
    refine Dr.read 7 _ 45 _ rfl rfl rfl rfl rfl (RV.of (by intro _ _ h; cases h) (.inl rfl) (fun _ xd => HV.add rfl rfl (by omega))) ?_
    rw [e45]
    refine Dr.read 8 _ 46 _ rfl rfl rfl rfl rfl (RV.of (by intro _ _ h; cases h) (.inl rfl) (fun _ xd => HV.nc rfl)) ?_
    refine Dr.read 9 _ 47 _ rfl rfl rfl rfl rfl (RV.of (by intro _ _ h; cases h) (.inl rfl) (fun _ xd => HV.fa fl134_1 rfl)) ?_
    refine Dr.eff 10 _ _ rfl (by intro d h; cases h) rfl rfl rfl (EC.of (by intro _ _ h; cases h) (.inl rfl) (WV.st rfl rfl va2 rfl hat (Nat.le_of_ble_eq_true rfl) (one_cons rfl one_nil))) (fun v H' h => .inr (.inl rfl)) ?_
    rintro _ H170 ⟨hx171, hb172⟩
    have ch173 := But.trans ch16 (But.mono hx171 (fun y e q => by have e1 : y = bm := e; rw [e1] at q; exact hnb (.inl (.inl q))))
    have q175 := Nat.le_trans X17.bd hx171.bd
    have X176 := Ext.thru X18 hx171 (fun z_ hz_ => by rw [hz_]; exact hBb)
    have q178 := Nat.le_trans X19.bd hx171.bd
    have q180 := Nat.le_trans X169.bd hx171.bd
    have hb181 := hb20.but hx171 hne4
    have hb182 : At W H170 bm ⟨134, [.int .i64 p, .int .i64 ((s.1 + (l - 1).toNat : Nat) : Int), vo, vr], 4⟩ := hb172
    refine Dr.fin rfl ?_
    refine nrm_and ?_
    refine AW.rs ?_
    have hM3 := hset hx171 hb182
    have hMk0 : Mk W H170 134 22 bm (fun y => (av y ∨ some y = vl.ownBlock) ∨ y = b3) p (s.1 + (l - 1).toNat, s.2) := hM3.mono (fun y q => q.elim .inl (fun e => .inr (by rw [e]; exact o8)))
    have hl4 := hl.rd.ext X17
    have hl5 := hl4.but hx171 (fun y hy _ e => by have e1 : y = bm := e; rw [e1] at hy; exact hnb (.inl (.inr hy))) (fun z_ hz_ => by rw [hz_]; exact hat.w)
    have hHb : H.bd ≤ H170.bd := by have q1 := X17.bd; have q2 := hx171.bd; omega
    refine AL.val rfl (.inl rfl) (HV.fa fl61_2 rfl) ?_
    refine AL.val rfl (.inl rfl) (HV.ld rfl va59 (at_cell_add (j := 2) hb181 rfl)) ?_
    refine AL.val rfl (.inl rfl) (HV.len Try.underlying59 rfl hr.isSl) ?_
    refine AL.val rfl (.inl rfl) (HV.mv rfl) ?_
    refine AL.nx ?_
    refine AW.block ?_
    refine AW.loop (σ := Nat) (fun i => [(0, .pointer (some ⟨bm, 0, none⟩)), (2, vl), (4, .pointer (some ⟨b3, 0, none⟩)), (6, .int .i64 (s.1 : Int)), (49, v), (50, .int .i64 (ks.length : Int)), (51, .int .i64 (i : Int))]) (fun i H' => Ext HB H' ∧ At W H' b3 ⟨61, [.int .i64 h, .int .i64 l, v], 3⟩ ∧ But (fun y => ¬ av y) H H' ∧ H.bd ≤ H'.bd ∧ RdK kI W H' (fun y => some y = vl.ownBlock) vl x ∧ i ≤ ks.length ∧ Mk W H' 134 22 bm (fun y => (av y ∨ some y = vl.ownBlock) ∨ y = b3) p (foldK (fun z i t => nodeG (kdI p) d z (kdI p t.1 s.1 (l - 1).toNat x i) t) ks i (s.1 + (l - 1).toNat, s.2)) ∧ True) (fun i => ks.length - i) 0 ⟨X176, hb181, ch173, hHb, hl5, Nat.zero_le _, hMk0, trivial⟩ ⟨rfl, rfl, rfl, rfl, rfl, rfl, rfl, trivial⟩ ?_
    rintro i H183 ⟨X184, hb185, ch186, q187, ho188, hi, hMk, _⟩
    have X189 := Ext.refl H183
    have hin := fold_inc (kid := kdI p) (n := n) (d := d) (ks := ks) (x := x) (s := s) (m := (l - 1).toNat) hfn.2 i hi
    have hst := szL_take ks i (d := d)
    obtain ⟨t, ht⟩ : ∃ t, t = (foldK (fun z i t => nodeG (kdI p) d z (kdI p t.1 s.1 (l - 1).toNat x i) t) ks i (s.1 + (l - 1).toNat, s.2)) := ⟨_, rfl⟩
    rw [← ht] at hMk hin
    have hMy := hMk.young
    obtain ⟨vo2, vr2, hat2, _, _, hnb2, _, _⟩ := hMy.box
    refine AW.rs ?_
    refine AL.val rfl (.inl rfl) (HV.lti rfl rfl) ?_
    refine AL.nx ?_
    refine AW.seq ?_
    refine AW.ifd rfl (fun c190 => ?_) (fun c190 => ?_)
    · -- then
      refine AW.skip ?_
      refine nrm_and ?_
      refine AW.seq ?_
      refine AW.block ?_
      refine AW.rs ?_
      refine AL.val rfl (.inl rfl) (HV.mv rfl) ?_
      obtain ⟨p191, z192, cs193, hz194, hK195, hC196, hP197⟩ := RdK.ix (q := (i : Int)) hr sl59 (by omega) (by omega)
      obtain ⟨a198, l199, v200, n201, rfl, isl202⟩ := kG_cells hK195
      refine AL.val rfl (.inl rfl) (hP197 rfl rfl) ?_
      refine AL.val rfl (.inl rfl) (HV.lda (cs := [.int .i64 a198, .int .i64 l199, v200]) rfl va61 (hC196.ext X184)) ?_
      refine AL.w rfl (.inl rfl) (WV.al ze61 rfl) ?_
      rintro _ H204 ⟨b203, rfl, hx205, hn206, hb207⟩
      have o208 := Nat.le_trans X184.bd hn206
      have o209 := Nat.le_trans X189.bd hn206
      have o210 := Nat.le_trans q187 hn206
      have ne211 : b3 ≠ b203 := by have := hb185.lt; omega
      have ne212 : bm ≠ b203 := by have := hat2.lt; omega
      have ch213 := But.trans ch186 (Ext.but hx205 _)
      have hMk214 := Mk.ext hMy hx205
      have q215 := Nat.le_trans q187 hx205.bd
      have X216 := Ext.trans X184 hx205
      have X217 := Ext.trans X189 hx205
      have ho218 := ho188.ext hx205
      have hb219 := hb185.ext hx205
      have hb220 := hat2.ext hx205
      have X221 := Ext.refl H204
      refine AL.val rfl (.inl rfl) (HV.as rfl) ?_
      refine AL.w0 (.inl rfl) (WV.st rfl rfl va61 rfl hb207 (Nat.le_of_ble_eq_true rfl) (one_cons rfl (one_cons rfl (one_cons (sl_one1 (isl202.ext X216).isSl) one_nil)))) ?_
      rintro _ H222 ⟨hx223, hb224⟩
      have ch225 := But.thru ch213 hx223 (fun z_ hz_ => by rw [hz_]; exact o210)
      have hMk226 := Mk.but hMk214 hx223 (fun y hy => .inr (by rw [hy]; exact o209)) (fun z_ hz_ => by rw [hz_]; exact hb207.w)
      have q227 := Nat.le_trans q215 hx223.bd
      have X228 := Ext.thru X216 hx223 (fun z_ hz_ => by rw [hz_]; exact o208)
      have X229 := Ext.thru X217 hx223 (fun z_ hz_ => by rw [hz_]; exact o209)
      have q231 := Nat.le_trans X221.bd hx223.bd
      have ho232 := ho218.but hx223 (fun y hy _ e => by have h1 := (hl.blk y hy).2.1; have h2 : y = b203 := e; omega) (fun z_ hz_ => by rw [hz_]; exact hb207.w)
      have hb233 := hb219.but hx223 ne211
      have hb234 := hb220.but hx223 ne212
      have hb235 : At W H222 b203 ⟨61, [.int .i64 a198, .int .i64 l199, v200], 3⟩ := hb224
      refine AL.nx ?_
      refine AW.rs ?_
      refine AL.val rfl (.inl rfl) (HV.mv rfl) ?_
      refine AL.val rfl (.inl rfl) (HV.nc rfl) ?_
      refine AL.val rfl (.inl rfl) (HV.fa fl134_1 rfl) ?_
      refine AL.val rfl (.inl rfl) (HV.ld rfl va2 (at_cell_add (j := 1) hb234 rfl)) ?_
      have X236 := Ext.refl H222
      have y237 := hb233.lt
      have y238 := hb234.lt
      have y239 := hb235.lt
      have o240 := X228.bd
      have o241 := X229.bd
      have o242 := X236.bd
      refine AL.w rfl (.inl rfl) (WV.mkK (K := kI) (0 : Int) (fun _ _ _ => rfl) sl22 rfl rfl rfl (by omega) (by omega) (by omega)) ?_
      rintro v243 H244 ⟨hx245, ho246⟩
      have ch247 := But.trans ch225 (Ext.but hx245 _)
      have hMk248 := Mk.ext hMk226 hx245
      have q249 := Nat.le_trans q227 hx245.bd
      have q250 := Nat.le_trans q231 hx245.bd
      have X251 := Ext.trans X228 hx245
      have X252 := Ext.trans X229 hx245
      have X253 := Ext.trans X236 hx245
      have ho254 := ho232.ext hx245
      have hb255 := hb233.ext hx245
      have hb256 := hb234.ext hx245
      have hb257 := hb235.ext hx245
      refine AL.val rfl (.inl rfl) (HV.as rfl) ?_
      refine AL.nx ?_
      refine AW.rs ?_
      refine AL.val rfl (.inl rfl) (HV.mv rfl) ?_
      refine AL.val rfl (.inl rfl) (HV.mv rfl) ?_
      refine AL.w rfl (.inl rfl) (WV.cpK sl22 rfl rfl ho246 ho254 (by simp; omega) (by omega)) ?_
      rintro _ H259 ⟨hx260, ho261⟩
      have ch262 := But.thru ch247 hx260 (fun b hb => Nat.le_trans q227 (ho246.blk b hb).1)
      have hMk263 := Mk.but hMk248 hx260 (fun y hy => .inr (Nat.le_trans o241 (ho246.blk y hy).1)) (fun y hy => (ho246.blk y hy).2.2)
      have q264 := Nat.le_trans q249 hx260.bd
      have q265 := Nat.le_trans q250 hx260.bd
      have X266 := Ext.thru X251 hx260 (fun b hb => Nat.le_trans o240 (ho246.blk b hb).1)
      have X267 := Ext.thru X252 hx260 (fun b hb => Nat.le_trans o241 (ho246.blk b hb).1)
      have X268 := Ext.thru X253 hx260 (fun b hb => Nat.le_trans o242 (ho246.blk b hb).1)
      have ho269 := ho254.but hx260 (fun y hy _ e => by have h1 := (hl.blk y hy).2.1; have h2 := (ho246.blk y e).1; omega) (fun b hb => (ho246.blk b hb).2.2)
      have hb270 := hb255.but hx260 (fun e => by have q : H222.bd ≤ _ := (ho246.blk _ e).1; omega)
      have hb271 := hb256.but hx260 (fun e => by have q : H222.bd ≤ _ := (ho246.blk _ e).1; omega)
      have hb272 := hb257.but hx260 (fun e => by have q : H222.bd ≤ _ := (ho246.blk _ e).1; omega)
      refine AL.nx ?_
      refine AW.seq ?_
      refine AW.rs ?_
      have ho273 : OwnK kI 2 W H259 (fun b => H222.bd ≤ b) v243 (kidI p t.1 s.1 x i 0) := by have q := ho261; rw [Int.toNat_natCast, List.drop_replicate] at q; exact q
      refine AL.val rfl (.inl rfl) (HV.as rfl) ?_
      refine AL.nx ?_
      refine AW.block ?_
      refine AW.loop (σ := Nat × Int) (fun ⟨j, y⟩ => [(0, .pointer (some ⟨bm, 0, none⟩)), (2, vl), (4, .pointer (some ⟨b3, 0, none⟩)), (6, .int .i64 (s.1 : Int)), (7, .int .i64 (i : Int)), (8, .pointer (some ⟨b203, 0, none⟩)), (9, v243), (49, v), (50, .int .i64 (ks.length : Int)), (51, .int .i64 (i : Int)), (52, .bool (decide ((i : Int) < (ks.length : Int)))), (53, .int .i64 (i : Int)), (54, .pointer (some p191)), (55, .agg #[.int .i64 a198, .int .i64 l199, v200]), (56, .pointer (some ⟨bm, 0, none⟩)), (57, .pointer (some ⟨bm, 0, none⟩)), (58, .pointer (some ⟨bm, 1, none⟩)), (59, .int .i64 (t.1 : Int)), (60, v243), (61, v243), (62, vl), (9, v243), (10, .int .i64 y)]) (fun ⟨j, y⟩ H' => Ext HB H' ∧ Ext H183 H' ∧ Ext H222 H' ∧ At W H' b3 ⟨61, [.int .i64 h, .int .i64 l, v], 3⟩ ∧ At W H' bm ⟨134, [.int .i64 p, .int .i64 (t.1 : Int), vo2, vr2], 4⟩ ∧ At W H' b203 ⟨61, [.int .i64 a198, .int .i64 l199, v200], 3⟩ ∧ But (fun y => ¬ av y) H H' ∧ H.bd ≤ H'.bd ∧ RdK kI W H' (fun y => some y = vl.ownBlock) vl x ∧ j ≤ (l - 1).toNat ∧ y = (j : Int) + 1 ∧ OwnK kI 2 W H' (fun b => H222.bd ≤ b) v243 (kidI p t.1 s.1 x i j) ∧ Mk W H' 134 22 bm (fun y => (fun y => (av y ∨ some y = vl.ownBlock) ∨ y = b3) y ∨ H183.bd ≤ y) p t ∧ True) (fun ⟨j, y⟩ => (l - 1).toNat - j) (0, 1) ⟨X266, X267, X268, hb270, hb271, hb272, ch262, q264, ho269, Nat.zero_le _, rfl, ho273, hMk263, trivial⟩ ⟨rfl, rfl, rfl, rfl, rfl, rfl, rfl, rfl, rfl, rfl, rfl, rfl, rfl, rfl, rfl, rfl, rfl, rfl, rfl, rfl, rfl, rfl, rfl, trivial⟩ ?_
      rintro ⟨j, y⟩ H274 ⟨X275, X276, X277, hb278, hb279, hb280, ch281, q282, ho283, hj, hy, hoL, hMz, _⟩
      have hkil := kidI_len (p := p) (f := s.1) (i := i) (show x.length ≤ t.1 by omega) j
      refine AW.seq ?_
      refine AW.rs ?_
      refine AL.val rfl (.inl rfl) (HV.mv rfl) ?_
      refine AL.val rfl (.inl rfl) (HV.fa fl61_1 rfl) ?_
      refine AL.val rfl (.inl rfl) (HV.ld rfl va2 (at_cell_add (j := 1) hb278 rfl)) ?_
      refine AL.val rfl (.inl rfl) (HV.lti rfl rfl) ?_
      refine AL.nx ?_
      refine AW.ifd rfl (fun c284 => ?_) (fun c284 => ?_)
      · -- then
        refine AW.skip ?_
        refine nrm_and ?_
        refine AW.seq ?_
        refine AW.block ?_
        refine AW.draw' [0, 0, 0, 6, 14, 0, 32, 96, 224, 0, 512, 0, 2048, 6144, 14336, 32256, 0, 131040, 262143, 524287] mixed (by rfl) ?_
        refine Dr.read 0 _ 70 _ rfl rfl rfl rfl rfl (RV.of (by intro _ _ h; cases h) (.inl rfl) (fun _ xd => HV.mv rfl)) ?_
        refine Dr.read 1 _ 71 _ rfl rfl rfl rfl rfl (RV.of (by intro _ _ h; cases h) (.inl rfl) (fun _ xd => HV.mv rfl)) ?_
        refine Dr.read 2 _ 72 _ rfl rfl rfl rfl rfl (RV.of (by intro _ _ h; cases h) (.inl rfl) (fun _ xd => HV.mv rfl)) ?_
        refine Dr.read 3 _ 73 _ rfl rfl rfl rfl rfl (RV.of (by intro _ _ h; cases h) (.inl rfl) (fun _ xd => HV.add rfl rfl (by omega))) ?_
        refine Dr.read 4 _ 74 _ rfl rfl rfl rfl rfl (RV.of (by intro _ _ h; cases h) (.inl rfl) (fun _ xd => HV.sub rfl rfl (by omega))) ?_
        refine Dr.read 5 _ 75 _ rfl rfl rfl rfl rfl (RV.of (by intro _ _ h; cases h) (.inl rfl) (fun _ xd => HV.mv rfl)) ?_
        refine Dr.read 6 _ 76 _ rfl rfl rfl rfl rfl (RV.of (by intro _ _ h; cases h) (.inl rfl) (fun _ xd => HV.nc rfl)) ?_
        refine Dr.read 7 _ 77 _ rfl rfl rfl rfl rfl (RV.of (by intro _ _ h; cases h) (.inl rfl) (fun _ xd => HV.fa fl134_0 rfl)) ?_
        refine Dr.read 8 _ 78 _ rfl rfl rfl rfl rfl (RV.of (by intro _ _ h; cases h) (.inl rfl) (fun _ xd => HV.ld rfl va2 (rdc_ext xd (at_cell hb279 rfl)))) ?_
        refine Dr.read 9 _ 79 _ rfl rfl rfl rfl rfl (RV.of (by intro _ _ h; cases h) (.inl rfl) (fun _ xd => HV.mv rfl)) ?_
        refine Dr.read 10 _ 80 _ rfl rfl rfl rfl rfl (RV.of (by intro _ _ h; cases h) (.inl rfl) (fun _ xd => HV.add rfl rfl (by omega))) ?_
        refine Dr.read 11 _ 81 _ rfl rfl rfl rfl rfl (RV.of (by intro _ _ h; cases h) (.inl rfl) (fun _ xd => HV.mv rfl)) ?_
        refine Dr.read 12 _ 82 _ rfl rfl rfl rfl rfl (RV.of (by intro _ _ h; cases h) (.inl rfl) (fun _ xd => HV.nc rfl)) ?_
        refine Dr.read 13 _ 83 _ rfl rfl rfl rfl rfl (RV.of (by intro _ _ h; cases h) (.inl rfl) (fun _ xd => HV.fa fl134_0 rfl)) ?_
        refine Dr.read 14 _ 84 _ rfl rfl rfl rfl rfl (RV.of (by intro _ _ h; cases h) (.inl rfl) (fun _ xd => HV.ld rfl va2 (rdc_ext xd (at_cell hb279 rfl)))) ?_
        have e85 : (((i : Int) + 1) % p) = (i : Int) + 1 := Int.emod_eq_of_lt (by omega) (by omega)
        refine Dr.read 15 _ 85 _ rfl rfl rfl rfl rfl (RV.of (by intro _ _ h; cases h) (.inl rfl) (fun _ xd => HV.rem rfl rfl (by omega))) ?_
        rw [e85]
        refine Dr.read 16 _ 86 _ rfl rfl rfl rfl rfl (RV.of (by intro _ _ h; cases h) (.inl rfl) (fun _ xd => HV.mv rfl)) ?_
        refine Dr.eff 17 _ _ rfl (by intro d h; cases h; exact ⟨rfl, rfl⟩) rfl rfl rfl (EC.of (by intro _ _ h; cases h) (.inl rfl) (WV.call fn161 rfl (power_ok (W := W) p ((i : Int) + 1) y (by omega) (by omega) (by omega)))) (fun v H' h => .inl (h.2)) ?_
        rintro _ H285 ⟨rfl, hx286⟩
        have ch287 := But.trans ch281 (Ext.but hx286 _)
        have hMk288 := Mk.ext hMz hx286
        have q289 := Nat.le_trans q282 hx286.bd
        have X290 := Ext.trans X275 hx286
        have X291 := Ext.trans X276 hx286
        have X292 := Ext.trans X277 hx286
        have ho293 := hoL.ext hx286
        have ho294 := ho283.ext hx286
        have hb295 := hb278.ext hx286
        have hb296 := hb279.ext hx286
        have hb297 := hb280.ext hx286
        obtain ⟨g298, z299, cs300, hz301, hK302, hC303, hg304, hP305⟩ := OwnK.ix (q := ((s.1 : Int) + y) - 1) ho293 sl22 (by omega) (by omega)
        have X306 := Ext.refl H285
        obtain rfl : cs300 = [.int .i64 z299] := hK302
        refine Dr.read 18 _ 88 _ rfl rfl rfl rfl rfl (RV.of (by intro _ _ h; cases h) (.inl rfl) (fun _ xd => hP305 rfl rfl)) ?_
        refine Dr.eff 19 _ _ rfl (by intro d h; cases h) rfl rfl rfl (EC.of (by intro _ _ h; cases h) (.inl rfl) (WV.stK (okx := fun _ => False) (x' := powM p ((i : Int) + 1) (y : Int).toNat) ho293 hg304 rfl rfl va2 (by omega) rfl (fun _ h => h.elim))) (fun v H' h => .inr (.inl rfl)) ?_
        rintro _ H307 ⟨hx308, ho309⟩
        have ch310 := But.thru ch287 hx308 (fun b hb => Nat.le_trans q227 (ho293.blk b hb).1)
        have hMk311 := Mk.but hMk288 hx308 (fun y hy => .inr (Nat.le_trans o241 (ho293.blk y hy).1)) (fun y hy => (ho293.blk y hy).2.2)
        have q312 := Nat.le_trans q289 hx308.bd
        have X313 := Ext.thru X290 hx308 (fun b hb => Nat.le_trans o240 (ho293.blk b hb).1)
        have X314 := Ext.thru X291 hx308 (fun b hb => Nat.le_trans o241 (ho293.blk b hb).1)
        have X315 := Ext.thru X292 hx308 (fun b hb => Nat.le_trans o242 (ho293.blk b hb).1)
        have q317 := Nat.le_trans X306.bd hx308.bd
        have ho318 := ho294.but hx308 (fun y hy _ e => by have h1 := (hl.blk y hy).2.1; have h2 := (ho293.blk y e).1; omega) (fun b hb => (ho293.blk b hb).2.2)
        have hb319 := hb295.but hx308 (fun e => by have q : H222.bd ≤ _ := (ho293.blk _ e).1; omega)
        have hb320 := hb296.but hx308 (fun e => by have q : H222.bd ≤ _ := (ho293.blk _ e).1; omega)
        have hb321 := hb297.but hx308 (fun e => by have q : H222.bd ≤ _ := (ho293.blk _ e).1; omega)
        have ho322 := ho309.okk (ok' := fun b => H222.bd ≤ b) (fun b hb _ => hb.elim id False.elim)
        refine Dr.fin rfl ?_
        refine nrm_blk (nrm_and ?_)
        refine AW.reg ?_
        refine AL.val rfl (.inl rfl) (HV.mv rfl) ?_
        refine AL.val rfl (.inl rfl) (HV.add rfl rfl (by omega)) ?_
        refine AL.val rfl (.inl rfl) (HV.as rfl) ?_
        refine AL.nil ?_
        refine nrm_and ?_
        exact ⟨(j + 1, y + 1), ⟨X313, X314, X315, hb319, hb320, hb321, ch310, q312, ho318, by omega, by omega, by have q := ho322; rw [show (((s.1 : Int) + y) - 1).toNat = s.1 + j by omega, show y.toNat = j + 1 by omega] at q; exact q, hMk311, trivial⟩, by first | omega | (dsimp only; omega), ⟨rfl, rfl, rfl, rfl, rfl, rfl, rfl, rfl, rfl, rfl, rfl, rfl, rfl, rfl, rfl, rfl, rfl, rfl, rfl, rfl, rfl, rfl, rfl, trivial⟩⟩
      · -- else
        refine AW.exit ?_
        refine ex_and (ex_and (ex_blk ?_))
        refine nrm_and ?_
        refine AW.reg ?_
        refine AL.val rfl (.inl rfl) (HV.mv rfl) ?_
        refine AL.val rfl (.inl rfl) (HV.lda (cs := [.int .i64 a198, .int .i64 l199, v200]) rfl va61 (at_cells hb280 rfl)) ?_
        refine AL.val rfl (.inl rfl) (HV.mv rfl) ?_
        have hzm := List.mem_of_getElem? hz194
        have hzs := szL_snoc (getq hz194 rfl)
        have hst2 := szL_take ks (i + 1) (d := d)
        have hst3 := szL_more (d := d) ks (i + 1) (by omega)
        have hj2 : (l - 1).toNat = j := by omega
        have hkl := kidI_len (p := p) (f := s.1) (i := i) (show x.length ≤ t.1 by omega) j
        have hav326 : ∀ y, (fun y => (av y ∨ some y = vl.ownBlock) ∨ y = b3) y → y < H274.bd := fun y hy => by rcases hy with (hy | hy) | hy; exact Nat.lt_of_lt_of_le (hav2 y hy) q282; exact Nat.lt_of_lt_of_le (hl.blk y hy).2.1 q282; rw [hy]; exact hb278.lt
        have hvb327 : ∀ y, some y = v243.ownBlock → H183.bd ≤ y := fun y hy => Nat.le_trans o241 (hoL.blk y hy).1
        have hHi : ∀ y, (fun y => (av y ∨ some y = vl.ownBlock) ∨ y = b3) y → y < H183.bd := fun y hy => by rcases hy with (hy | hy) | hy; exact Nat.lt_of_lt_of_le (hav2 y hy) q187; exact Nat.lt_of_lt_of_le (hl.blk y hy).2.1 q187; rw [hy]; exact hb185.lt
        refine AL.w rfl (.inl rfl) (WV.call fn107 rfl (ih hWB hK195 X275 (hMz.mono (fun y hy => hy.elim .inl (fun e => .inr (hvb327 y e)))) (hoL.narrow kI_flat (fun y e => e)) (fun y hy => .inl (.inl (hav y hy))) hav326 (fun y hy e => by have h1 := hvb327 y e; have h2 := hHi y hy; omega) (hfn.2 _ hzm) (hwn.2 _ hzm) hp ⟨by omega, by omega⟩ ⟨by omega, by omega, by omega⟩)) ?_
        rintro _ H323 ⟨e_, hM324, hB325⟩
        have X328 := Ext.thru X275 hB325 (fun y hy => Nat.le_of_not_lt (fun q => hy (.inl (.inl (hav y q)))))
        have ch329 := But.trans ch281 (But.mono hB325 (fun y q e => q (.inl (.inl e))))
        have q330 := Nat.le_trans q282 hB325.bd
        have hb331 := hb278.but hB325 (fun e => e (.inr rfl))
        have hW333 : ∀ y, ¬ (fun y => (av y ∨ some y = vl.ownBlock) ∨ y = b3) y → W.heap.size ≤ y := fun y q => Nat.le_of_not_lt (fun q2 => q (.inl (.inl (hav y (by omega)))))
        have hl332 := ho283.but hB325 (fun y hy _ e => e (.inl (.inr hy))) hW333
        have X334 := Ext.refl H323
        refine AL.nil ?_
        refine nrm_blk (nrm_and ?_)
        refine AW.reg ?_
        refine AL.val rfl (.inl rfl) (HV.add rfl rfl (by omega)) ?_
        refine AL.val rfl (.inl rfl) (HV.mv rfl) ?_
        refine AL.nil ?_
        refine nrm_and ?_
        exact ⟨i + 1, ⟨X328, hb331, ch329, q330, hl332, by omega, by rw [foldK_succ (getq hz194 rfl), ← ht, hj2]; exact hM324, trivial⟩, by first | omega | (dsimp only; omega), ⟨rfl, rfl, rfl, rfl, rfl, rfl, rfl, trivial⟩⟩
    · -- else
      refine AW.exit ?_
      refine ex_and (ex_and (ex_blk ?_))
      refine post_none rfl ?_ (.inl rfl)
      exact ⟨rfl, by rw [nodeG_node (by omega), show ks.length = i by omega, ← ht]; exact hMy.mono (fun y q => .inl (.inl (.inl q))), ch186⟩

theorem add_all (d : Nat) : ∀ {W : World} {HB H : Hp} {okg av : Nat → Prop} {z : GT d} {a l : Int} {v : Value} {bm : Nat} {p n : Int} {s : MS} {vl : Value} {x : List Int} (hWB : W.heap.size ≤ HB.bd) (hK : (kG d).rd W HB okg z [.int .i64 a, .int .i64 l, v]) (hX : Ext HB H) (hM : Mk W H 134 22 bm (fun y => av y ∨ some y = vl.ownBlock) p s) (hl : OwnK kI 2 W H (fun y => some y = vl.ownBlock) vl x) (hav : ∀ y, y < HB.bd → av y) (hav2 : ∀ y, av y → y < H.bd) (hla : ∀ y, av y → some y ≠ vl.ownBlock) (hf : fmG n d z) (hw : ¬ wdG p d z) (hp : 2 ≤ p ∧ p ≤ 31) (hx : 1 ≤ x.length ∧ x.length ≤ s.1) (hc : s.1 + 2 * szG d z ≤ 140 ∧ s.2.1.length + szG d z ≤ 70 ∧ s.2.2.length + szG d z ≤ 70), ACalls Try.prog W 107 #[.pointer (some ⟨bm, 0, none⟩), .agg #[.int .i64 a, .int .i64 l, v], vl] H (fun r H' => r = .tuple #[] ∧ Mk W H' 134 22 bm av p (nodeG (kdI p) d z x s) ∧ But (fun y => ¬ av y) H H') := by
  induction d with
  | zero => intro W HB H okg av z a l v bm p n s vl x hWB hK; exact hK.elim
  | succ d ih =>
    intro W HB H okg av z a l v bm p n s vl x hWB hK hX hM hl hav hav2 hla hf hw hp hx hc
    obtain ⟨h', l', ks⟩ := z
    obtain ⟨v', e, hr⟩ := kG_succ.1 hK
    simp only [List.cons.injEq, Value.int.injEq, true_and, and_true] at e
    obtain ⟨rfl, rfl, rfl⟩ := e
    exact add_of ih hWB hr hX hM hl hav hav2 hla hf hw hp hx hc

set_option maxRecDepth 100000 in
theorem node_of {d : Nat} (ih : ∀ {pg : Addr} {W : World} {HB H : Hp} {okg av : Nat → Prop} {z : GT d} {a l : Int} {v : Value} {bm : Nat} {p n : Int} {s : MS} {vl : Value} {x : List Int} (hWB : W.heap.size ≤ HB.bd) (hK : (kG d).rd W HB okg z [.int .i64 a, .int .i64 l, v]) (hcg : Cells W HB pg [.int .i64 a, .int .i64 l, v]) (hX : Ext HB H) (hM : Mk W H 182 22 bm (fun y => av y ∨ some y = vl.ownBlock) p s) (hl : OwnK kI 2 W H (fun y => some y = vl.ownBlock) vl x) (hav : ∀ y, y < HB.bd → av y) (hav2 : ∀ y, av y → y < H.bd) (hla : ∀ y, av y → some y ≠ vl.ownBlock) (hf : fmG n d z) (hw : ¬ wdG p d z) (hp : 2 ≤ p ∧ p ≤ 31) (hx : 1 ≤ x.length ∧ x.length ≤ s.1) (hc : s.1 + 2 * szG d z ≤ 140 ∧ s.2.1.length + szG d z ≤ 70 ∧ s.2.2.length + szG d z ≤ 70), ACalls Try.prog W 155 #[.pointer (some ⟨bm, 0, none⟩), .pointer (some pg), vl] H (fun r H' => r = .tuple #[] ∧ Mk W H' 182 22 bm av p (nodeG (kdS p) d z x s) ∧ But (fun y => ¬ av y) H H')) {pg : Addr} {HB : Hp} {okg av : Nat → Prop} {h l : Int} {v : Value} {ks : List (GT d)} {bm : Nat} {p n : Int} {s : MS} {vl : Value} {x : List Int} (hWB : W.heap.size ≤ HB.bd) (hr : RdK (kG d) W HB okg v ks) (hcg : Cells W HB pg [.int .i64 h, .int .i64 l, v]) (hX : Ext HB H) (hM : Mk W H 182 22 bm (fun y => av y ∨ some y = vl.ownBlock) p s) (hl : OwnK kI 2 W H (fun y => some y = vl.ownBlock) vl x) (hav : ∀ y, y < HB.bd → av y) (hav2 : ∀ y, av y → y < H.bd) (hla : ∀ y, av y → some y ≠ vl.ownBlock) (hf : fmG n (d + 1) (h, l, ks)) (hw : ¬ wdG p (d + 1) (h, l, ks)) (hp : 2 ≤ p ∧ p ≤ 31) (hx : 1 ≤ x.length ∧ x.length ≤ s.1) (hc : s.1 + 2 * szG (d + 1) (h, l, ks) ≤ 140 ∧ s.2.1.length + szG (d + 1) (h, l, ks) ≤ 70 ∧ s.2.2.length + szG (d + 1) (h, l, ks) ≤ 70) : ACalls Try.prog W 155 #[.pointer (some ⟨bm, 0, none⟩), .pointer (some pg), vl] H (fun r H' => r = .tuple #[] ∧ Mk W H' 182 22 bm av p (nodeG (kdS p) (d + 1) (h, l, ks) x s) ∧ But (fun y => ¬ av y) H H') := by
  refine ACalls.of (args := [.pointer (some ⟨bm, 0, none⟩), .pointer (some pg), vl]) Try.func155 rfl rfl ?_
  have X0 := Ext.refl H
  have hm1 := (hl.rd).max
  have sl59 : SlT Try.prog 59 61 (.agg #[(.int .i64 0), (.int .i64 0), (.slice none 0 0)]) (kG d).sz 40 := by rw [kG_sz]; exact sl59
  have hmks := hr.max
  have CH0 := But.refl (fun y => ¬ av y) H
  refine AW.seq ?_
  refine AW.rs ?_
  refine AL.val rfl (.inl rfl) (HV.mv rfl) ?_
  refine AL.val rfl (.inl rfl) (HV.nc rfl) ?_
  refine AL.val rfl (.inl rfl) (HV.fa fl61_2 rfl) ?_
  refine AL.val rfl (.inl rfl) (HV.ld rfl va59 (cells_at (hcg.ext hX) rfl)) ?_
  refine AL.val rfl (.inl rfl) (HV.len Try.underlying59 rfl hr.isSl) ?_
  refine AL.val rfl (.inl rfl) (HV.eqi rfl rfl) ?_
  refine AL.nx ?_
  refine AW.ifd rfl (fun c2 => ?_) (fun c2 => ?_)
  · -- then
    refine AW.seq ?_
    refine AW.draw' [0, 0, 2, 6, 14, 0, 32, 96, 224, 480, 1022, 2047, 4095, 8191] mixed (by rfl) ?_
    obtain ⟨lab, vo, vr, vs, hM1, hM2⟩ := (hM.young).ext X0
    have hge : ∀ y k, lab y = k + 1 → HB.bd ≤ y := fun y k q => Nat.le_of_not_lt (fun q2 => by have := hM2 y (.inl (.inl (hav y q2))); omega)
    have hoO := hM1.own.narrow (ok' := fun y => HB.bd ≤ y ∧ some y = vo.ownBlock) kI_flat (fun y q => ⟨hge y 1 (hM1.own.blk y q).1, q⟩)
    have hoR := hM1.raw.narrow (ok' := fun y => HB.bd ≤ y ∧ some y = vr.ownBlock) kV_flat (fun y q => ⟨hge y 2 (hM1.raw.blk y q).1, q⟩)
    have hdis : ∀ y, some y = vo.ownBlock → some y = vr.ownBlock → False := fun y h1 h2 => by have q1 := (hM1.own.blk y h1).1; have q2 := (hM1.raw.blk y h2).1; omega
    have hab := hM1.at_
    have hmO := hM1.own.rd.max
    have hmR := hM1.raw.rd.max
    have hmN := hM1.len
    have hapO : ∀ y, some y = vo.ownBlock → y = bm → False := fun y h1 h2 => by have q1 := (hM1.own.blk y h1).1; have q2 := hM1.lb; rw [h2] at q1; omega
    have hapR : ∀ y, some y = vr.ownBlock → y = bm → False := fun y h1 h2 => by have q1 := (hM1.raw.blk y h1).1; have q2 := hM1.lb; rw [h2] at q1; omega
    have hch := But.refl (fun y => y = bm ∨ some y = vo.ownBlock ∨ some y = vr.ownBlock) H
    have hsz1 : szG (d + 1) (h, l, ks) = 1 + szL d ks := szG_succ
    refine Dr.read 0 _ 16 _ rfl rfl rfl rfl rfl (RV.of (by intro _ _ h; cases h) (.inl rfl) (fun _ xd => HV.mv rfl)) ?_
    refine Dr.read 1 _ 17 _ rfl rfl rfl rfl rfl (RV.of (by intro _ _ h; cases h) (.inl rfl) (fun _ xd => HV.mv rfl)) ?_
    refine Dr.read 2 _ 18 _ rfl rfl rfl rfl rfl (RV.of (by intro _ _ h; cases h) (.inl rfl) (fun _ xd => HV.nc rfl)) ?_
    refine Dr.read 3 _ 19 _ rfl rfl rfl rfl rfl (RV.of (by intro _ _ h; cases h) (.inl rfl) (fun _ xd => HV.fa fl182_2 rfl)) ?_
    refine Dr.read 4 _ 20 _ rfl rfl rfl rfl rfl (RV.of (by intro _ _ h; cases h) (.inl rfl) (fun _ xd => HV.ld rfl va22 (rdc_ext xd (at_cell_add (j := 2) hab rfl)))) ?_
    refine Dr.read 5 _ 21 _ rfl rfl rfl rfl rfl (RV.of (by intro _ _ h; cases h) (.inl rfl) (fun _ xd => HV.mv rfl)) ?_
    refine Dr.read 6 _ 22 _ rfl rfl rfl rfl rfl (RV.of (by intro _ _ h; cases h) (.inl rfl) (fun _ xd => HV.nc rfl)) ?_
    refine Dr.read 7 _ 23 _ rfl rfl rfl rfl rfl (RV.of (by intro _ _ h; cases h) (.inl rfl) (fun _ xd => HV.fa fl61_0 rfl)) ?_
    refine Dr.read 8 _ 24 _ rfl rfl rfl rfl rfl (RV.of (by intro _ _ h; cases h) (.inl rfl) (fun _ xd => HV.ld rfl va2 (rdc_ext xd (cells_first (hcg.ext hX) rfl)))) ?_
    have y3 := hab.lt
    have o4 := X0.bd
    have o5 := hX.bd
    have a6 := hoO.ltb
    have a7 := hoR.ltb
    refine Dr.eff 9 _ _ rfl (by intro d h; cases h; exact ⟨rfl, rfl⟩) rfl rfl rfl (EC.of (by intro _ _ h; cases h) (.inl rfl) (WV.bsK (K := kI) (l := ([h] : List Int)) (css := [[.int .i64 h]]) sl22 rfl rfl (by first | rfl | (simp [Instr.fill, Value.cells, kI, kB, kU, kU8, kS, Kd.sc]; done) | (simp [Instr.fill, Value.cells, kI, kB, kU, kU8, kS, Kd.sc, rng1, rng2, rng3, rng4, kP])) rfl (segs_cons rfl segs_nil))) (fun v H' h => .inl (h.1)) ?_
    rintro v8 H9 ⟨hx10, ho11⟩
    have ch12 := But.trans hch (Ext.but hx10 _)
    have X13 := Ext.trans X0 hx10
    have X14 := Ext.trans hX hx10
    have ho15 := hoO.ext hx10
    have ho16 := hoR.ext hx10
    have hb17 := hab.ext hx10
    have X19 := Ext.refl H9
    refine Dr.eff 10 _ _ rfl (by intro d h; cases h; exact ⟨rfl, rfl⟩) rfl rfl rfl (EC.of (by intro _ _ h; cases h) (.inl rfl) (WV.apk sl22 rfl rfl ho15 ho11.rd (by simp; omega) (by simp; omega) (fun b hb _ e => Nat.lt_irrefl _ (Nat.lt_of_lt_of_le (a6 b e) hb)))) ?_ ?_
    · -- kept
      rintro v20 H21 ⟨hx22, ho23, hb24⟩
      have ho25 := ho23.narrow (ok' := fun b => HB.bd ≤ b ∧ some b = v20.ownBlock) kI_flat (fun b q => ⟨(hb24 b q).elim (fun e => (ho15.blk b e).1.1) (fun e => Nat.le_trans X14.bd e), q⟩)
      have d26 : ∀ b, some b = vr.ownBlock → some b = v20.ownBlock → False := fun b h1 h2 => (hb24 b h2).elim (fun e => (fun b h1 h2 => hdis b h2 h1) b h1 e) (fun e => by have := (ho16.blk b h1).2.1; omega)
      have a27 : ∀ b', some b' = v20.ownBlock → b' = bm → False := fun b' h1 h2 => (hb24 b' h1).elim (fun e => hapO b' e h2) (fun e => by have := hb17.lt; omega)
      have ch28 := But.trans ch12 (But.mono hx22 (fun x e => .inr (.inl e)))
      have q30 := Nat.le_trans X13.bd hx22.bd
      have q32 := Nat.le_trans X14.bd hx22.bd
      have q34 := Nat.le_trans X19.bd hx22.bd
      have ho35 := ho16.but hx22 (fun b h1 _ h2 => (fun b h1 h2 => hdis b h2 h1) b h1.2 h2) (fun b hb => (ho15.blk b hb).2.2)
      have ho36 := ho11.but hx22 (fun b hb _ e => Nat.lt_irrefl _ (Nat.lt_of_lt_of_le (a6 b e) hb)) (fun b hb => (ho15.blk b hb).2.2)
      have hb37 := hb17.but hx22 (fun e => hapO _ e rfl)
      refine .inr (.inr ?_)
      exact (kept_cons (.inl rfl) (kept_cons (.inl rfl) (kept_cons (.inl rfl) (kept_cons (.inl rfl) (kept_cons (.inl rfl) (kept_cons (.inl rfl) (kept_cons (.inl rfl) (kept_cons (.inl rfl) (kept_cons (.inr ⟨_, _, _, rfl, rfl, rfl, (RV.of (by intro _ _ h; cases h) (.inl rfl) (fun _ xd => HV.mv rfl))⟩) kept_nil)))))))))
    rintro v20 H21 ⟨hx22, ho23, hb24⟩
    have ho25 := ho23.narrow (ok' := fun b => HB.bd ≤ b ∧ some b = v20.ownBlock) kI_flat (fun b q => ⟨(hb24 b q).elim (fun e => (ho15.blk b e).1.1) (fun e => Nat.le_trans X14.bd e), q⟩)
    have d38 : ∀ b, some b = vr.ownBlock → some b = v20.ownBlock → False := fun b h1 h2 => (hb24 b h2).elim (fun e => (fun b h1 h2 => hdis b h2 h1) b h1 e) (fun e => by have := (ho16.blk b h1).2.1; omega)
    have a39 : ∀ b', some b' = v20.ownBlock → b' = bm → False := fun b' h1 h2 => (hb24 b' h1).elim (fun e => hapO b' e h2) (fun e => by have := hb17.lt; omega)
    have ch40 := But.trans ch12 (But.mono hx22 (fun x e => .inr (.inl e)))
    have q42 := Nat.le_trans X13.bd hx22.bd
    have q44 := Nat.le_trans X14.bd hx22.bd
    have q46 := Nat.le_trans X19.bd hx22.bd
    have ho47 := ho16.but hx22 (fun b h1 _ h2 => (fun b h1 h2 => hdis b h2 h1) b h1.2 h2) (fun b hb => (ho15.blk b hb).2.2)
    have ho48 := ho11.but hx22 (fun b hb _ e => Nat.lt_irrefl _ (Nat.lt_of_lt_of_le (a6 b e) hb)) (fun b hb => (ho15.blk b hb).2.2)
    have hb49 := hb17.but hx22 (fun e => hapO _ e rfl)
    refine Dr.read 11 _ 27 _ rfl rfl rfl rfl rfl (RV.of (by intro _ _ h; cases h) (.inl rfl) (fun _ xd => HV.nc rfl)) ?_
    refine Dr.read 12 _ 28 _ rfl rfl rfl rfl rfl (RV.of (by intro _ _ h; cases h) (.inl rfl) (fun _ xd => HV.fa fl182_2 rfl)) ?_
    refine Dr.eff 13 _ _ rfl (by intro d h; cases h) rfl rfl rfl (EC.of (by intro _ _ h; cases h) (.inl rfl) (WV.st rfl rfl va22 (sl_size ho25.rd.isSl) hb49 (Nat.le_of_ble_eq_true rfl) (sl_one ho25.rd.isSl))) (fun v H' h => .inr (.inl rfl)) ?_
    rintro _ H50 ⟨hx51, hb52⟩
    rw [sl_cells ho25.rd.isSl] at hb52
    have ch53 := But.trans ch40 (But.mono hx51 (fun x e => .inl e))
    have q54 := Nat.le_trans q42 hx51.bd
    have q55 := Nat.le_trans q44 hx51.bd
    have q56 := Nat.le_trans q46 hx51.bd
    have ho57 := ho25.but hx51 (fun b hb _ e => a39 b hb.2 e) (fun z_ hz_ => by rw [hz_]; exact hb49.w)
    have ho58 := ho47.but hx51 (fun b hb _ e => hapR b hb.2 e) (fun z_ hz_ => by rw [hz_]; exact hb49.w)
    have ho59 := ho48.but hx51 (fun b hb _ e => by have hb' : H.bd ≤ b := hb; have e' : b = bm := e; omega) (fun z_ hz_ => by rw [hz_]; exact hb49.w)
    have hb60 : At W H50 bm ⟨182, [.int .i64 p, .int .i64 (s.1 : Int), v20, vr], 4⟩ := hb52
    refine Dr.fin rfl ?_
    refine nrm_and ?_
    refine AW.rs ?_
    refine AL.val rfl (.inl rfl) (HV.mv rfl) ?_
    refine AL.val rfl (.inl rfl) (HV.mv rfl) ?_
    refine AL.val rfl (.inl rfl) (HV.nc rfl) ?_
    refine AL.val rfl (.inl rfl) (HV.fa fl182_3 rfl) ?_
    refine AL.val rfl (.inl rfl) (HV.ld rfl va23 (at_cell_add (j := 3) hb60 rfl)) ?_
    refine AL.val rfl (.inl rfl) (HV.mv rfl) ?_
    have X61 := Ext.refl H50
    have y62 := hb60.lt
    have o63 := X61.bd
    have a64 := ho57.ltb
    have a65 := ho58.ltb
    have a66 := ho59.ltb
    have hc71 : vl.cells = #[vl] := by obtain ⟨A, c, e⟩ := (hl.rd).isSl; rw [e]; rfl
    refine AL.w rfl (.inl rfl) (WV.bsK (K := kV) (l := [vl]) (css := [[vl]]) sl23 rfl rfl (by simp [Instr.fill, hc71, kV, rng1]) rfl (segs_cons ⟨rfl, _, (hl.rd).isSl⟩ segs_nil)) ?_
    rintro v67 H68 ⟨hx69, ho70⟩
    have ch72 := But.trans ch53 (Ext.but hx69 _)
    have q73 := Nat.le_trans q54 hx69.bd
    have q74 := Nat.le_trans q55 hx69.bd
    have q75 := Nat.le_trans q56 hx69.bd
    have X76 := Ext.trans X61 hx69
    have ho77 := ho57.ext hx69
    have ho78 := ho58.ext hx69
    have ho79 := ho59.ext hx69
    have hb80 := hb60.ext hx69
    have X82 := Ext.refl H68
    refine AL.w rfl (.inl rfl) (WV.apk sl23 rfl rfl ho78 ho70.rd (by simp; omega) (by simp; omega) (fun b hb _ e => Nat.lt_irrefl _ (Nat.lt_of_lt_of_le (a65 b e) hb))) ?_
    rintro v83 H84 ⟨hx85, ho86, hb87⟩
    have ho88 := ho86.narrow (ok' := fun b => HB.bd ≤ b ∧ some b = v83.ownBlock) kV_flat (fun b q => ⟨(hb87 b q).elim (fun e => (ho78.blk b e).1.1) (fun e => Nat.le_trans q74 e), q⟩)
    have d89 : ∀ b, some b = v20.ownBlock → some b = v83.ownBlock → False := fun b h1 h2 => (hb87 b h2).elim (fun e => (fun b h1 h2 => d38 b h2 h1) b h1 e) (fun e => by have := (ho77.blk b h1).2.1; omega)
    have a90 : ∀ b', some b' = v83.ownBlock → b' = bm → False := fun b' h1 h2 => (hb87 b' h1).elim (fun e => hapR b' e h2) (fun e => by have := hb80.lt; omega)
    have ch91 := But.trans ch72 (But.mono hx85 (fun x e => .inr (.inr e)))
    have q92 := Nat.le_trans q73 hx85.bd
    have q93 := Nat.le_trans q74 hx85.bd
    have q94 := Nat.le_trans q75 hx85.bd
    have q96 := Nat.le_trans X76.bd hx85.bd
    have q98 := Nat.le_trans X82.bd hx85.bd
    have ho99 := ho77.but hx85 (fun b h1 _ h2 => (fun b h1 h2 => d38 b h2 h1) b h1.2 h2) (fun b hb => (ho78.blk b hb).2.2)
    have ho100 := ho79.but hx85 (fun b hb _ e => Nat.lt_irrefl _ (Nat.lt_of_lt_of_le (a7 b e) hb)) (fun b hb => (ho78.blk b hb).2.2)
    have ho101 := ho70.but hx85 (fun b hb _ e => Nat.lt_irrefl _ (Nat.lt_of_lt_of_le (a65 b e) hb)) (fun b hb => (ho78.blk b hb).2.2)
    have hb102 := hb80.but hx85 (fun e => hapR _ e rfl)
    refine AL.val rfl (.inl rfl) (HV.nc rfl) ?_
    refine AL.val rfl (.inl rfl) (HV.fa fl182_3 rfl) ?_
    refine AL.w0 (.inl rfl) (WV.st rfl rfl va23 (sl_size ho88.rd.isSl) hb102 (Nat.le_of_ble_eq_true rfl) (sl_one ho88.rd.isSl)) ?_
    rintro _ H103 ⟨hx104, hb105⟩
    rw [sl_cells ho88.rd.isSl] at hb105
    have ch106 := But.trans ch91 (But.mono hx104 (fun x e => .inl e))
    have q107 := Nat.le_trans q92 hx104.bd
    have q108 := Nat.le_trans q93 hx104.bd
    have q109 := Nat.le_trans q94 hx104.bd
    have q110 := Nat.le_trans q96 hx104.bd
    have q111 := Nat.le_trans q98 hx104.bd
    have ho112 := ho99.but hx104 (fun b hb _ e => a39 b hb.2 e) (fun z_ hz_ => by rw [hz_]; exact hb102.w)
    have ho113 := ho88.but hx104 (fun b hb _ e => a90 b hb.2 e) (fun z_ hz_ => by rw [hz_]; exact hb102.w)
    have ho114 := ho100.but hx104 (fun b hb _ e => by have hb' : H.bd ≤ b := hb; have e' : b = bm := e; omega) (fun z_ hz_ => by rw [hz_]; exact hb102.w)
    have ho115 := ho101.but hx104 (fun b hb _ e => by have hb' : H50.bd ≤ b := hb; have e' : b = bm := e; omega) (fun z_ hz_ => by rw [hz_]; exact hb102.w)
    have hb116 : At W H103 bm ⟨182, [.int .i64 p, .int .i64 (s.1 : Int), v20, v83], 4⟩ := hb105
    refine AL.nx ?_
    refine AW.ret ?_
    refine ret_and ?_
    refine post_none rfl ?_ (.inr rfl)
    have hLL := Mkr.leaf (a := h) hM1 (fun y q => hM2 y (.inl q)) (fun y q => Nat.lt_of_lt_of_le (hav2 y q) X0.bd) (hl.ext X0) hla ch106 hb116 (ho112.okk (fun y q _ => q.2)) (ho113.okk (fun y q _ => q.2)) (fun y q => (hb24 y q).imp id (fun e => Nat.le_trans X13.bd e)) (fun y q => (hb87 y q).imp id (fun e => Nat.le_trans q73 e)) d89; exact ⟨rfl, by rw [nodeG_leaf (show ks.length = 0 by omega)]; exact hLL.1, But.trans (Ext.but X0 _) hLL.2⟩
  · -- else
    refine AW.skip ?_
    refine nrm_and ?_
    refine AW.rs ?_
    obtain ⟨vo, vr, hat, ⟨no, hio⟩, ⟨nr, hir⟩, hnb, _, hset⟩ := ((hM.young).ext X0).box
    have hbl : bm < H.bd := Nat.lt_of_not_le (fun q => hnb (.inr q))
    have hBb : HB.bd ≤ bm := Nat.le_of_not_lt (fun q => hnb (.inl (.inl (hav bm q))))
    have hfn := hf
    rw [fmG_succ, if_neg (by omega)] at hfn
    have hsz1 : szG (d + 1) (h, l, ks) = 1 + szL d ks := szG_succ
    have hwn : ¬ (p ≤ (ks.length : Int)) ∧ ∀ z ∈ ks, ¬ wdG p d z := ⟨fun q => hw (wdG_succ.2 (.inl q)), fun z hz q => hw (wdG_succ.2 (.inr ⟨z, hz, q⟩))⟩
    have hll := szL_len ks (d := d)
    refine AL.val rfl (.inl rfl) (HV.mv rfl) ?_
    refine AL.val rfl (.inl rfl) (HV.nc rfl) ?_
    refine AL.val rfl (.inl rfl) (HV.fa fl182_1 rfl) ?_
    refine AL.val rfl (.inl rfl) (HV.ld rfl va2 (at_cell_add (j := 1) hat rfl)) ?_
    refine AL.val rfl (.inl rfl) (HV.as rfl) ?_
    refine AL.nx ?_
    refine AW.seq ?_
    refine AW.draw' [0, 1, 3, 7, 0, 16, 48, 112, 240, 511, 1023, 2047, 4095] mixed (by rfl) ?_
    refine Dr.read 0 _ 43 _ rfl rfl rfl rfl rfl (RV.of (by intro _ _ h; cases h) (.inl rfl) (fun _ xd => HV.mv rfl)) ?_
    refine Dr.read 1 _ 44 _ rfl rfl rfl rfl rfl (RV.of (by intro _ _ h; cases h) (.inl rfl) (fun _ xd => HV.nc rfl)) ?_
    refine Dr.read 2 _ 45 _ rfl rfl rfl rfl rfl (RV.of (by intro _ _ h; cases h) (.inl rfl) (fun _ xd => HV.fa fl182_1 rfl)) ?_
    refine Dr.read 3 _ 46 _ rfl rfl rfl rfl rfl (RV.of (by intro _ _ h; cases h) (.inl rfl) (fun _ xd => HV.ld rfl va2 (rdc_ext xd (at_cell_add (j := 1) hat rfl)))) ?_
    refine Dr.read 4 _ 47 _ rfl rfl rfl rfl rfl (RV.of (by intro _ _ h; cases h) (.inl rfl) (fun _ xd => HV.mv rfl)) ?_
    refine Dr.read 5 _ 48 _ rfl rfl rfl rfl rfl (RV.of (by intro _ _ h; cases h) (.inl rfl) (fun _ xd => HV.nc rfl)) ?_
    refine Dr.read 6 _ 49 _ rfl rfl rfl rfl rfl (RV.of (by intro _ _ h; cases h) (.inl rfl) (fun _ xd => HV.fa fl61_1 rfl)) ?_
    refine Dr.read 7 _ 50 _ rfl rfl rfl rfl rfl (RV.of (by intro _ _ h; cases h) (.inl rfl) (fun _ xd => HV.ld rfl va2 (rdc_ext xd (cells_at (hcg.ext hX) rfl)))) ?_
    refine Dr.read 8 _ 51 _ rfl rfl rfl rfl rfl (RV.of (by intro _ _ h; cases h) (.inl rfl) (fun _ xd => HV.sub rfl rfl (by omega))) ?_
    have e45 : (s.1 : Int) + (l - 1) = ((s.1 + (l - 1).toNat : Nat) : Int) := by omega
    refine Dr.read 9 _ 52 _ rfl rfl rfl rfl rfl (RV.of (by intro _ _ h; cases h) (.inl rfl) (fun _ xd => HV.add rfl rfl (by omega))) ?_
    rw [e45]
    refine Dr.read 10 _ 53 _ rfl rfl rfl rfl rfl (RV.of (by intro _ _ h; cases h) (.inl rfl) (fun _ xd => HV.nc rfl)) ?_
    refine Dr.read 11 _ 54 _ rfl rfl rfl rfl rfl (RV.of (by intro _ _ h; cases h) (.inl rfl) (fun _ xd => HV.fa fl182_1 rfl)) ?_
    refine Dr.eff 12 _ _ rfl (by intro d h; cases h) rfl rfl rfl (EC.of (by intro _ _ h; cases h) (.inl rfl) (WV.st rfl rfl va2 rfl hat (Nat.le_of_ble_eq_true rfl) (one_cons rfl one_nil))) (fun v H' h => .inr (.inl rfl)) ?_
    rintro _ H117 ⟨hx118, hb119⟩
    have ch120 := But.trans CH0 (But.mono hx118 (fun y e q => by have e1 : y = bm := e; rw [e1] at q; exact hnb (.inl (.inl q))))
    have q122 := Nat.le_trans X0.bd hx118.bd
    have X123 := Ext.thru hX hx118 (fun z_ hz_ => by rw [hz_]; exact hBb)
    have hb124 : At W H117 bm ⟨182, [.int .i64 p, .int .i64 ((s.1 + (l - 1).toNat : Nat) : Int), vo, vr], 4⟩ := hb119
    refine Dr.fin rfl ?_
    refine nrm_and ?_
    refine AW.rs ?_
    have hM3 := hset hx118 hb124
    have hMk0 : Mk W H117 182 22 bm (fun y => (av y ∨ some y = vl.ownBlock)) p (s.1 + (l - 1).toNat, s.2) := hM3.mono (fun y q => .inl q)
    have hl4 := hl.rd.ext X0
    have hl5 := hl4.but hx118 (fun y hy _ e => by have e1 : y = bm := e; rw [e1] at hy; exact hnb (.inl (.inr hy))) (fun z_ hz_ => by rw [hz_]; exact hat.w)
    have hHb : H.bd ≤ H117.bd := by have q1 := X0.bd; have q2 := hx118.bd; omega
    refine AL.val rfl (.inl rfl) (HV.as rfl) ?_
    refine AL.nx ?_
    refine AW.block ?_
    refine AW.loop (σ := Nat) (fun i => [(0, .pointer (some ⟨bm, 0, none⟩)), (1, .pointer (some pg)), (2, vl), (6, .int .i64 (s.1 : Int)), (7, .int .i64 (i : Int))]) (fun i H' => Ext HB H' ∧ But (fun y => ¬ av y) H H' ∧ H.bd ≤ H'.bd ∧ RdK kI W H' (fun y => some y = vl.ownBlock) vl x ∧ i ≤ ks.length ∧ Mk W H' 182 22 bm (fun y => (av y ∨ some y = vl.ownBlock)) p (foldK (fun z i t => nodeG (kdS p) d z (kdS p t.1 s.1 (l - 1).toNat x i) t) ks i (s.1 + (l - 1).toNat, s.2)) ∧ True) (fun i => ks.length - i) 0 ⟨X123, ch120, hHb, hl5, Nat.zero_le _, hMk0, trivial⟩ ⟨rfl, rfl, rfl, rfl, rfl, trivial⟩ ?_
    rintro i H125 ⟨X126, ch127, q128, ho129, hi, hMk, _⟩
    have X130 := Ext.refl H125
    have hin := fold_inc (kid := kdS p) (n := n) (d := d) (ks := ks) (x := x) (s := s) (m := (l - 1).toNat) hfn.2 i hi
    have hst := szL_take ks i (d := d)
    obtain ⟨t, ht⟩ : ∃ t, t = (foldK (fun z i t => nodeG (kdS p) d z (kdS p t.1 s.1 (l - 1).toNat x i) t) ks i (s.1 + (l - 1).toNat, s.2)) := ⟨_, rfl⟩
    rw [← ht] at hMk hin
    have hMy := hMk.young
    obtain ⟨vo2, vr2, hat2, _, _, hnb2, _, _⟩ := hMy.box
    refine AW.seq ?_
    refine AW.rs ?_
    refine AL.val rfl (.inl rfl) (HV.mv rfl) ?_
    refine AL.val rfl (.inl rfl) (HV.mv rfl) ?_
    refine AL.val rfl (.inl rfl) (HV.nc rfl) ?_
    refine AL.val rfl (.inl rfl) (HV.fa fl61_2 rfl) ?_
    refine AL.val rfl (.inl rfl) (HV.ld rfl va59 (cells_at (hcg.ext X126) rfl)) ?_
    refine AL.val rfl (.inl rfl) (HV.len Try.underlying59 rfl hr.isSl) ?_
    refine AL.val rfl (.inl rfl) (HV.lti rfl rfl) ?_
    refine AL.nx ?_
    refine AW.ifd rfl (fun c131 => ?_) (fun c131 => ?_)
    · -- then
      refine AW.skip ?_
      refine nrm_and ?_
      refine AW.seq ?_
      refine AW.block ?_
      refine AW.rs ?_
      refine AL.val rfl (.inl rfl) (HV.mv rfl) ?_
      have y132 := hat2.lt
      have o133 := X126.bd
      have o134 := X130.bd
      refine AL.w rfl (.inl rfl) (WV.call fn85 rfl (l00Own_ok ho129 (by omega))) ?_
      rintro v135 H136 ⟨hx137, ho138⟩
      have ch139 := But.trans ch127 (Ext.but hx137 _)
      have hMk140 := Mk.ext hMy hx137
      have q141 := Nat.le_trans q128 hx137.bd
      have X142 := Ext.trans X126 hx137
      have X143 := Ext.trans X130 hx137
      have ho144 := ho129.ext hx137
      have hb145 := hat2.ext hx137
      refine AL.val rfl (.inl rfl) (HV.as rfl) ?_
      refine AL.nx ?_
      refine AW.seq ?_
      refine AW.block ?_
      refine AW.loop (σ := Nat × Value) (fun ⟨k0, vv147⟩ => [(0, .pointer (some ⟨bm, 0, none⟩)), (1, .pointer (some pg)), (2, vl), (6, .int .i64 (s.1 : Int)), (7, .int .i64 (i : Int)), (55, .int .i64 (i : Int)), (56, .pointer (some pg)), (57, .pointer (some pg)), (59, v), (60, .int .i64 (ks.length : Int)), (61, .bool (decide ((i : Int) < (ks.length : Int)))), (64, vl), (65, v135), (8, vv147)]) (fun ⟨k0, vv147⟩ H' => Ext HB H' ∧ Ext H125 H' ∧ At W H' bm ⟨182, [.int .i64 p, .int .i64 (t.1 : Int), vo2, vr2], 4⟩ ∧ But (fun y => ¬ av y) H H' ∧ H.bd ≤ H'.bd ∧ RdK kI W H' (fun y => some y = vl.ownBlock) vl x ∧ x.length + k0 ≤ s.1 ∧ OwnK kI 2 W H' (fun b => H125.bd ≤ b) vv147 (x ++ List.replicate k0 0) ∧ Mk W H' 182 22 bm (fun y => (fun y => (av y ∨ some y = vl.ownBlock)) y ∨ H125.bd ≤ y) p t ∧ True) (fun ⟨k0, vv147⟩ => s.1 - (x.length + k0)) (0, v135) ⟨X142, X143, hb145, ch139, q141, ho144, by omega, by have q := ho138; simpa using q, hMk140, trivial⟩ ⟨rfl, rfl, rfl, rfl, rfl, rfl, rfl, rfl, rfl, rfl, rfl, rfl, rfl, rfl, trivial⟩ ?_
      rintro ⟨k0, vv147⟩ H148 ⟨X149, X150, hb151, ch152, q153, ho154, hq, hoLk0, hMzk0, _⟩
      have hql : (x ++ List.replicate k0 (0 : Int)).length = x.length + k0 := by simp
      refine AW.seq ?_
      refine AW.rs ?_
      refine AL.val rfl (.inl rfl) (HV.mv rfl) ?_
      refine AL.val rfl (.inl rfl) (HV.len Try.underlying22 rfl hoLk0.rd.isSl) ?_
      refine AL.val rfl (.inl rfl) (HV.mv rfl) ?_
      refine AL.val rfl (.inl rfl) (HV.lti rfl rfl) ?_
      refine AL.nx ?_
      refine AW.ifd rfl (fun c155 => ?_) (fun c155 => ?_)
      · -- then
        refine AW.skip ?_
        refine nrm_and ?_
        refine AW.block ?_
        refine AW.reg ?_
        refine AL.val rfl (.inl rfl) (HV.mv rfl) ?_
        have X156 := Ext.refl H148
        have y157 := hb151.lt
        have o158 := X149.bd
        have o159 := X150.bd
        have o160 := X156.bd
        have a161 := hoLk0.ltb
        refine AL.w rfl (.inl rfl) (WV.bsK (K := kI) (l := ([0] : List Int)) (css := [[.int .i64 0]]) sl22 rfl rfl (by first | rfl | (simp [Instr.fill, Value.cells, kI, kB, kU, kU8, kS, Kd.sc]; done) | (simp [Instr.fill, Value.cells, kI, kB, kU, kU8, kS, Kd.sc, rng1, rng2, rng3, rng4, kP])) rfl (segs_cons rfl segs_nil)) ?_
        rintro v162 H163 ⟨hx164, ho165⟩
        have ch166 := But.trans ch152 (Ext.but hx164 _)
        have hMk167 := Mk.ext hMzk0 hx164
        have q168 := Nat.le_trans q153 hx164.bd
        have X169 := Ext.trans X149 hx164
        have X170 := Ext.trans X150 hx164
        have X171 := Ext.trans X156 hx164
        have ho172 := hoLk0.ext hx164
        have ho173 := ho154.ext hx164
        have hb174 := hb151.ext hx164
        have X176 := Ext.refl H163
        refine AL.w rfl (.inl rfl) (WV.apk sl22 rfl rfl ho172 ho165.rd (by simp; omega) (by simp; omega) (fun b hb _ e => Nat.lt_irrefl _ (Nat.lt_of_lt_of_le (a161 b e) hb))) ?_
        rintro v177 H178 ⟨hx179, ho180, hb181⟩
        have ho182 := ho180.narrow (ok' := fun b => H125.bd ≤ b) kI_flat (fun b q => (hb181 b q).elim (fun e => (ho172.blk b e).1) (fun e => Nat.le_trans X170.bd e))
        have ch183 := But.thru ch166 hx179 (fun b hb => Nat.le_trans q128 (ho172.blk b hb).1)
        have hMk184 := Mk.but hMk167 hx179 (fun y hy => .inr (Nat.le_trans o134 (ho172.blk y hy).1)) (fun y hy => (ho172.blk y hy).2.2)
        have q185 := Nat.le_trans q168 hx179.bd
        have X186 := Ext.thru X169 hx179 (fun b hb => Nat.le_trans o133 (ho172.blk b hb).1)
        have X187 := Ext.thru X170 hx179 (fun b hb => Nat.le_trans o134 (ho172.blk b hb).1)
        have q189 := Nat.le_trans X171.bd hx179.bd
        have q191 := Nat.le_trans X176.bd hx179.bd
        have ho192 := ho173.but hx179 (fun y hy _ e => by have h1 := (hl.blk y hy).2.1; have h2 := (ho172.blk y e).1; omega) (fun b hb => (ho172.blk b hb).2.2)
        have hb194 := hb174.but hx179 (fun e => by have q : H125.bd ≤ _ := (ho172.blk _ e).1; omega)
        refine AL.val rfl (.inl rfl) (HV.as rfl) ?_
        refine AL.nil ?_
        refine nrm_blk (nrm_and ?_)
        exact ⟨(k0 + 1, v177), ⟨X186, X187, hb194, ch183, q185, ho192, by omega, by have q := ho182; rw [List.replicate_succ', ← List.append_assoc]; exact q, hMk184, trivial⟩, by first | omega | (dsimp only; omega), ⟨rfl, rfl, rfl, rfl, rfl, rfl, rfl, rfl, rfl, rfl, rfl, rfl, rfl, rfl, trivial⟩⟩
      · -- else
        refine AW.exit ?_
        refine ex_and (ex_and (ex_blk ?_))
        refine nrm_and ?_
        refine AW.seq ?_
        refine AW.rs ?_
        refine AL.val rfl (.inl rfl) (HV.as rfl) ?_
        refine AL.nx ?_
        refine AW.block ?_
        refine AW.loop (σ := Nat × Value × Int) (fun ⟨j, vv195, y⟩ => [(0, .pointer (some ⟨bm, 0, none⟩)), (1, .pointer (some pg)), (2, vl), (6, .int .i64 (s.1 : Int)), (7, .int .i64 (i : Int)), (55, .int .i64 (i : Int)), (56, .pointer (some pg)), (57, .pointer (some pg)), (59, v), (60, .int .i64 (ks.length : Int)), (61, .bool (decide ((i : Int) < (ks.length : Int)))), (64, vl), (65, v135), (66, vv147), (67, .int .i64 ((x ++ List.replicate k0 0).length : Int)), (68, .int .i64 (s.1 : Int)), (69, .bool (decide (((x ++ List.replicate k0 0).length : Int) < (s.1 : Int)))), (8, vv195), (9, .int .i64 y)]) (fun ⟨j, vv195, y⟩ H' => Ext HB H' ∧ Ext H125 H' ∧ At W H' bm ⟨182, [.int .i64 p, .int .i64 (t.1 : Int), vo2, vr2], 4⟩ ∧ But (fun y => ¬ av y) H H' ∧ H.bd ≤ H'.bd ∧ RdK kI W H' (fun y => some y = vl.ownBlock) vl x ∧ j ≤ (l - 1).toNat ∧ y = (j : Int) + 1 ∧ OwnK kI 2 W H' (fun b => H125.bd ≤ b) vv195 (kidS p s.1 j x i) ∧ Mk W H' 182 22 bm (fun y => (fun y => (av y ∨ some y = vl.ownBlock)) y ∨ H125.bd ≤ y) p t ∧ True) (fun ⟨j, vv195, y⟩ => (l - 1).toNat - j) (0, vv147, 1) ⟨X149, X150, hb151, ch152, q153, ho154, Nat.zero_le _, rfl, by have q := hoLk0; rw [show x ++ List.replicate k0 0 = kidS p s.1 0 x i by unfold kidS padL powT; rw [show s.1 - x.length = k0 by omega]; simp] at q; exact q, hMzk0, trivial⟩ ⟨rfl, rfl, rfl, rfl, rfl, rfl, rfl, rfl, rfl, rfl, rfl, rfl, rfl, rfl, rfl, rfl, rfl, rfl, rfl, trivial⟩ ?_
        rintro ⟨j, vv195, y⟩ H196 ⟨X197, X198, hb199, ch200, q201, ho202, hj, hy, hoLj, hMzj, _⟩
        have hjl := kidS_len (p := p) (i := i) (m := j) (show x.length ≤ s.1 by omega)
        refine AW.seq ?_
        refine AW.rs ?_
        refine AL.val rfl (.inl rfl) (HV.mv rfl) ?_
        refine AL.val rfl (.inl rfl) (HV.mv rfl) ?_
        refine AL.val rfl (.inl rfl) (HV.nc rfl) ?_
        refine AL.val rfl (.inl rfl) (HV.fa fl61_1 rfl) ?_
        refine AL.val rfl (.inl rfl) (HV.ld rfl va2 (cells_at (hcg.ext X197) rfl)) ?_
        refine AL.val rfl (.inl rfl) (HV.lti rfl rfl) ?_
        refine AL.nx ?_
        refine AW.ifd rfl (fun c203 => ?_) (fun c203 => ?_)
        · -- then
          refine AW.skip ?_
          refine nrm_and ?_
          refine AW.seq ?_
          refine AW.block ?_
          refine AW.reg ?_
          refine AL.val rfl (.inl rfl) (HV.mv rfl) ?_
          refine AL.val rfl (.inl rfl) (HV.mv rfl) ?_
          refine AL.val rfl (.inl rfl) (HV.nc rfl) ?_
          refine AL.val rfl (.inl rfl) (HV.fa fl182_0 rfl) ?_
          refine AL.val rfl (.inl rfl) (HV.ld rfl va2 (at_cell hb199 rfl)) ?_
          refine AL.val rfl (.inl rfl) (HV.mv rfl) ?_
          refine AL.val rfl (.inl rfl) (HV.add rfl rfl (by omega)) ?_
          refine AL.val rfl (.inl rfl) (HV.mv rfl) ?_
          refine AL.w rfl (.inl rfl) (WV.call fn197 rfl (l03Power_ok (W := W) p ((i : Int) + 1) y (by omega) (by omega) (by omega))) ?_
          rintro _ H204 ⟨rfl, hx205⟩
          have ch206 := But.trans ch200 (Ext.but hx205 _)
          have hMk207 := Mk.ext hMzj hx205
          have q208 := Nat.le_trans q201 hx205.bd
          have X209 := Ext.trans X197 hx205
          have X210 := Ext.trans X198 hx205
          have ho211 := hoLj.ext hx205
          have ho212 := ho202.ext hx205
          have hb213 := hb199.ext hx205
          have X214 := Ext.refl H204
          have y215 := hb213.lt
          have o216 := X209.bd
          have o217 := X210.bd
          have o218 := X214.bd
          have a219 := ho211.ltb
          refine AL.w rfl (.inl rfl) (WV.bsK (K := kI) (l := ([powM p ((i : Int) + 1) (y : Int).toNat] : List Int)) (css := [[.int .i64 (powM p ((i : Int) + 1) (y : Int).toNat)]]) sl22 rfl rfl (by first | rfl | (simp [Instr.fill, Value.cells, kI, kB, kU, kU8, kS, Kd.sc]; done) | (simp [Instr.fill, Value.cells, kI, kB, kU, kU8, kS, Kd.sc, rng1, rng2, rng3, rng4, kP])) rfl (segs_cons rfl segs_nil)) ?_
          rintro v220 H221 ⟨hx222, ho223⟩
          have ch224 := But.trans ch206 (Ext.but hx222 _)
          have hMk225 := Mk.ext hMk207 hx222
          have q226 := Nat.le_trans q208 hx222.bd
          have X227 := Ext.trans X209 hx222
          have X228 := Ext.trans X210 hx222
          have X229 := Ext.trans X214 hx222
          have ho230 := ho211.ext hx222
          have ho231 := ho212.ext hx222
          have hb232 := hb213.ext hx222
          have X234 := Ext.refl H221
          refine AL.w rfl (.inl rfl) (WV.apk sl22 rfl rfl ho230 ho223.rd (by simp; omega) (by simp; omega) (fun b hb _ e => Nat.lt_irrefl _ (Nat.lt_of_lt_of_le (a219 b e) hb))) ?_
          rintro v235 H236 ⟨hx237, ho238, hb239⟩
          have ho240 := ho238.narrow (ok' := fun b => H125.bd ≤ b) kI_flat (fun b q => (hb239 b q).elim (fun e => (ho230.blk b e).1) (fun e => Nat.le_trans X228.bd e))
          have ch241 := But.thru ch224 hx237 (fun b hb => Nat.le_trans q128 (ho230.blk b hb).1)
          have hMk242 := Mk.but hMk225 hx237 (fun y hy => .inr (Nat.le_trans o134 (ho230.blk y hy).1)) (fun y hy => (ho230.blk y hy).2.2)
          have q243 := Nat.le_trans q226 hx237.bd
          have X244 := Ext.thru X227 hx237 (fun b hb => Nat.le_trans o133 (ho230.blk b hb).1)
          have X245 := Ext.thru X228 hx237 (fun b hb => Nat.le_trans o134 (ho230.blk b hb).1)
          have q247 := Nat.le_trans X229.bd hx237.bd
          have q249 := Nat.le_trans X234.bd hx237.bd
          have ho250 := ho231.but hx237 (fun y hy _ e => by have h1 := (hl.blk y hy).2.1; have h2 := (ho230.blk y e).1; omega) (fun b hb => (ho230.blk b hb).2.2)
          have hb252 := hb232.but hx237 (fun e => by have q : H125.bd ≤ _ := (ho230.blk _ e).1; omega)
          refine AL.val rfl (.inl rfl) (HV.as rfl) ?_
          refine AL.nil ?_
          refine nrm_blk (nrm_and ?_)
          refine AW.reg ?_
          refine AL.val rfl (.inl rfl) (HV.mv rfl) ?_
          refine AL.val rfl (.inl rfl) (HV.add rfl rfl (by omega)) ?_
          refine AL.val rfl (.inl rfl) (HV.as rfl) ?_
          refine AL.nil ?_
          refine nrm_and ?_
          exact ⟨(j + 1, v235, y + 1), ⟨X244, X245, hb252, ch241, q243, ho250, by omega, by omega, by have q := ho240; rw [show y.toNat = j + 1 by omega] at q; unfold kidS at q ⊢; rw [powT_succ, ← List.append_assoc]; exact q, hMk242, trivial⟩, by first | omega | (dsimp only; omega), ⟨rfl, rfl, rfl, rfl, rfl, rfl, rfl, rfl, rfl, rfl, rfl, rfl, rfl, rfl, rfl, rfl, rfl, rfl, rfl, trivial⟩⟩
        · -- else
          refine AW.exit ?_
          refine ex_and (ex_and (ex_blk ?_))
          refine nrm_and ?_
          refine AW.reg ?_
          refine AL.val rfl (.inl rfl) (HV.mv rfl) ?_
          refine AL.val rfl (.inl rfl) (HV.mv rfl) ?_
          refine AL.val rfl (.inl rfl) (HV.nc rfl) ?_
          refine AL.val rfl (.inl rfl) (HV.fa fl61_2 rfl) ?_
          refine AL.val rfl (.inl rfl) (HV.ld rfl va59 (cells_at (hcg.ext X197) rfl)) ?_
          refine AL.val rfl (.inl rfl) (HV.mv rfl) ?_
          obtain ⟨p253, z254, cs255, hz256, hK257, hC258, hP259⟩ := RdK.ix (q := (i : Int)) hr sl59 (by omega) (by omega)
          obtain ⟨a260, l261, v262, n263, rfl, isl264⟩ := kG_cells hK257
          refine AL.val rfl (.inl rfl) (hP259 rfl rfl) ?_
          refine AL.val rfl (.inl rfl) (HV.mv rfl) ?_
          have hzm := List.mem_of_getElem? hz256
          have hzs := szL_snoc (getq hz256 rfl)
          have hst2 := szL_take ks (i + 1) (d := d)
          have hst3 := szL_more (d := d) ks (i + 1) (by omega)
          have hj2 : (l - 1).toNat = j := by omega
          have hkl := kidS_len (p := p) (i := i) (m := j) (show x.length ≤ s.1 by omega)
          have hav268 : ∀ y, (fun y => (av y ∨ some y = vl.ownBlock)) y → y < H196.bd := fun y hy => by rcases hy with hy | hy; exact Nat.lt_of_lt_of_le (hav2 y hy) q201; exact Nat.lt_of_lt_of_le (hl.blk y hy).2.1 q201
          have hvb269 : ∀ y, some y = vv195.ownBlock → H125.bd ≤ y := fun y hy => Nat.le_trans o134 (hoLj.blk y hy).1
          have hHi : ∀ y, (fun y => (av y ∨ some y = vl.ownBlock)) y → y < H125.bd := fun y hy => by rcases hy with hy | hy; exact Nat.lt_of_lt_of_le (hav2 y hy) q128; exact Nat.lt_of_lt_of_le (hl.blk y hy).2.1 q128
          refine AL.w rfl (.inl rfl) (WV.call fn155 rfl (ih hWB hK257 hC258 X197 (hMzj.mono (fun y hy => hy.elim .inl (fun e => .inr (hvb269 y e)))) (hoLj.narrow kI_flat (fun y e => e)) (fun y hy => .inl (hav y hy)) hav268 (fun y hy e => by have h1 := hvb269 y e; have h2 := hHi y hy; omega) (hfn.2 _ hzm) (hwn.2 _ hzm) hp ⟨by omega, by omega⟩ ⟨by omega, by omega, by omega⟩)) ?_
          rintro _ H265 ⟨e_, hM266, hB267⟩
          have X270 := Ext.thru X197 hB267 (fun y hy => Nat.le_of_not_lt (fun q => hy (.inl (hav y q))))
          have ch271 := But.trans ch200 (But.mono hB267 (fun y q e => q (.inl e)))
          have q272 := Nat.le_trans q201 hB267.bd
          have hW274 : ∀ y, ¬ (fun y => (av y ∨ some y = vl.ownBlock)) y → W.heap.size ≤ y := fun y q => Nat.le_of_not_lt (fun q2 => q (.inl (hav y (by omega))))
          have hl273 := ho202.but hB267 (fun y hy _ e => e (.inr hy)) hW274
          have X275 := Ext.refl H265
          refine AL.nil ?_
          refine nrm_blk (nrm_and ?_)
          refine AW.reg ?_
          refine AL.val rfl (.inl rfl) (HV.mv rfl) ?_
          refine AL.val rfl (.inl rfl) (HV.add rfl rfl (by omega)) ?_
          refine AL.val rfl (.inl rfl) (HV.as rfl) ?_
          refine AL.nil ?_
          refine nrm_and ?_
          exact ⟨i + 1, ⟨X270, ch271, q272, hl273, by omega, by rw [foldK_succ (getq hz256 rfl), ← ht, hj2]; exact hM266, trivial⟩, by first | omega | (dsimp only; omega), ⟨rfl, rfl, rfl, rfl, rfl, trivial⟩⟩
    · -- else
      refine AW.exit ?_
      refine ex_and (ex_and (ex_blk ?_))
      refine post_none rfl ?_ (.inl rfl)
      exact ⟨rfl, by rw [nodeG_node (by omega), show ks.length = i by omega, ← ht]; exact hMy.mono (fun y q => .inl (.inl q)), ch127⟩

theorem node_all (d : Nat) : ∀ {pg : Addr} {W : World} {HB H : Hp} {okg av : Nat → Prop} {z : GT d} {a l : Int} {v : Value} {bm : Nat} {p n : Int} {s : MS} {vl : Value} {x : List Int} (hWB : W.heap.size ≤ HB.bd) (hK : (kG d).rd W HB okg z [.int .i64 a, .int .i64 l, v]) (hcg : Cells W HB pg [.int .i64 a, .int .i64 l, v]) (hX : Ext HB H) (hM : Mk W H 182 22 bm (fun y => av y ∨ some y = vl.ownBlock) p s) (hl : OwnK kI 2 W H (fun y => some y = vl.ownBlock) vl x) (hav : ∀ y, y < HB.bd → av y) (hav2 : ∀ y, av y → y < H.bd) (hla : ∀ y, av y → some y ≠ vl.ownBlock) (hf : fmG n d z) (hw : ¬ wdG p d z) (hp : 2 ≤ p ∧ p ≤ 31) (hx : 1 ≤ x.length ∧ x.length ≤ s.1) (hc : s.1 + 2 * szG d z ≤ 140 ∧ s.2.1.length + szG d z ≤ 70 ∧ s.2.2.length + szG d z ≤ 70), ACalls Try.prog W 155 #[.pointer (some ⟨bm, 0, none⟩), .pointer (some pg), vl] H (fun r H' => r = .tuple #[] ∧ Mk W H' 182 22 bm av p (nodeG (kdS p) d z x s) ∧ But (fun y => ¬ av y) H H') := by
  induction d with
  | zero => intro pg W HB H okg av z a l v bm p n s vl x hWB hK; exact hK.elim
  | succ d ih =>
    intro pg W HB H okg av z a l v bm p n s vl x hWB hK hcg hX hM hl hav hav2 hla hf hw hp hx hc
    obtain ⟨h', l', ks⟩ := z
    obtain ⟨v', e, hr⟩ := kG_succ.1 hK
    simp only [List.cons.injEq, Value.int.injEq, true_and, and_true] at e
    obtain ⟨rfl, rfl, rfl⟩ := e
    exact node_of ih hWB hr hcg hX hM hl hav hav2 hla hf hw hp hx hc
end Go.Proofs.Yticobjbjejpomaa.VC

