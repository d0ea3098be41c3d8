/- Walks. -/
import Derived.Test.YtbjcgcililpfdaaGreatZN11
set_option linter.unusedVariables false
set_option linter.unusedSimpArgs false
namespace Go.Proofs.YtbjcgcililpfdaaGreat.VC
open Go Go.RowKit
variable {W : World} {H : Hp}

theorem tk_set {us L L' : List RT} {m : Nat} {z u : RT} (hm : m < us.length) (h : us.take m = L) (e : L' = L ++ [u]) (hz : z = u) : (us.set (m : Int).toNat z).take (m + 1) = L' := by
  rw [Int.toNat_natCast, List.take_succ_eq_append_getElem (by rw [List.length_set]; exact hm), List.take_set_of_le (Nat.le_refl _), h, e, hz]
  simp

set_option maxRecDepth 100000 in
theorem compact_of {g n c : Nat} {ok : Nat → Prop} {lab : Nat → Nat} {ts : List RT} (ho : OwnK (kT lab) 25 W H ok (.slice (some ⟨g, 0, none⟩) n c) ts) (hn : ts.length = n) (hnc : n ≤ c) (hm : n ≤ 1048576) : ACalls Tryz.prog W 55 #[(.slice (some ⟨g, 0, none⟩) n c), (.func (.func 56) #[] #[])] H (fun r H' => (∃ m, r = .slice (some ⟨g, 0, none⟩) m c ∧ OwnK (kT lab) 25 W H' ok r (thinN ts ts.length)) ∧ But (fun b => b = g) H H') := by
  refine ACalls.of (args := [(.slice (some ⟨g, 0, none⟩) n c), (.func (.func 56) #[] #[])]) Tryz.func55 rfl rfl ?_
  have X0 := Ext.refl H
  refine AW.rs ?_
  refine AL.val rfl (.inl rfl) (HV.as rfl) ?_
  refine AL.nx ?_
  refine AW.seq ?_
  refine AW.rs ?_
  refine AL.val rfl (.inl rfl) (HV.mv rfl) ?_
  refine AL.val rfl (.inl rfl) (HV.len Tryz.underlying37 rfl ho.rd.isSl) ?_
  refine AL.val rfl (.inl rfl) (HV.lti rfl rfl) ?_
  refine AL.nx ?_
  refine AW.ifd rfl (fun c1 => ?_) (fun c1 => ?_)
  · -- then
    refine AW.rs ?_
    refine AL.val rfl (.inl rfl) (HV.mv rfl) ?_
    refine AL.val rfl (.inl rfl) (HV.as rfl) ?_
    refine AL.nx ?_
    refine AW.ret ?_
    refine ret_and ?_
    refine post_one rfl rfl ?_ (.inr rfl)
    exact ⟨⟨n, rfl, by rw [thinN_take (Nat.le_refl _) (fun j hj => by first | exact hke j (by omega) | exact .inl (by omega)), List.take_length]; exact ho⟩, Ext.but X0 _⟩
  · -- else
    refine AW.skip ?_
    refine nrm_and ?_
    refine AW.seq ?_
    refine AW.rs ?_
    refine AL.val rfl (.inl rfl) (HV.as rfl) ?_
    refine AL.nx ?_
    refine AW.block ?_
    refine AW.loop (σ := Nat) (fun k => [(0, (.slice (some ⟨g, 0, none⟩) n c)), (1, (.func (.func 56) #[] #[])), (5, .int .i64 (k : Int))]) (fun k H' => Ext H H' ∧ OwnK (kT lab) 25 W H' (ok) (.slice (some ⟨g, 0, none⟩) n c) ts ∧ 1 ≤ k ∧ k ≤ ts.length ∧ (∀ j, j < k → keepT ts j) ∧ True) (fun k => ts.length - k) 1 ⟨X0, ho, Nat.le_refl _, by omega, fun j hj => .inl (by omega), trivial⟩ ⟨rfl, rfl, rfl, trivial⟩ ?_
    rintro k H2 ⟨X3, ho4, hk1, hk, hke, _⟩
    refine AW.seq ?_
    refine AW.rs ?_
    refine AL.val rfl (.inl rfl) (HV.mv rfl) ?_
    refine AL.val rfl (.inl rfl) (HV.mv rfl) ?_
    refine AL.val rfl (.inl rfl) (HV.len Tryz.underlying37 rfl ho4.rd.isSl) ?_
    refine AL.val rfl (.inl rfl) (HV.lti rfl rfl) ?_
    refine AL.nx ?_
    refine AW.ifd rfl (fun c5 => ?_) (fun c5 => ?_)
    · -- then
      refine AW.skip ?_
      refine nrm_and ?_
      refine AW.seq ?_
      refine AW.block ?_
      refine AW.seq ?_
      refine AW.draw' [0, 0, 0, 6, 14, 0, 0, 64, 224, 480, 1023] mixed (by rfl) ?_
      refine Dr.read 0 _ 18 _ rfl rfl rfl rfl rfl (RV.of (by intro _ _ h; cases h) (.inl rfl) (fun _ xd => HV.mv rfl)) ?_
      refine Dr.read 1 _ 19 _ rfl rfl rfl rfl rfl (RV.of (by intro _ _ h; cases h) (.inl rfl) (fun _ xd => HV.mv rfl)) ?_
      refine Dr.read 2 _ 20 _ rfl rfl rfl rfl rfl (RV.of (by intro _ _ h; cases h) (.inl rfl) (fun _ xd => HV.mv rfl)) ?_
      obtain ⟨g6, z7, cs8, hz9, hK10, hC11, hg12, hP13⟩ := OwnK.ix (q := (k : Int)) ho4 sl37 (by omega) (by omega)
      have X14 := Ext.refl H2
      obtain ⟨rfl, hk15⟩ := hK10
      refine Dr.read 3 _ 21 _ rfl rfl rfl rfl rfl (RV.of (by intro _ _ h; cases h) (.inl rfl) (fun _ xd => hP13 rfl rfl)) ?_
      refine Dr.read 4 _ 22 _ rfl rfl rfl rfl rfl (RV.of (by intro _ _ h; cases h) (.inl rfl) (fun _ xd => HV.ld rfl va25 (rdc_ext xd (cells_first hC11 rfl)))) ?_
      refine Dr.read 5 _ 23 _ rfl rfl rfl rfl rfl (RV.of (by intro _ _ h; cases h) (.inl rfl) (fun _ xd => HV.mv rfl)) ?_
      refine Dr.read 6 _ 24 _ rfl rfl rfl rfl rfl (RV.of (by intro _ _ h; cases h) (.inl rfl) (fun _ xd => HV.mv rfl)) ?_
      refine Dr.read 7 _ 25 _ rfl rfl rfl rfl rfl (RV.of (by intro _ _ h; cases h) (.inl rfl) (fun _ xd => HV.sub rfl rfl (by omega))) ?_
      obtain ⟨g16, z17, cs18, hz19, hK20, hC21, hg22, hP23⟩ := OwnK.ix (q := (k : Int) - 1) ho4 sl37 (by omega) (by omega)
      obtain ⟨rfl, hk24⟩ := hK20
      refine Dr.read 8 _ 26 _ rfl rfl rfl rfl rfl (RV.of (by intro _ _ h; cases h) (.inl rfl) (fun _ xd => hP23 rfl rfl)) ?_
      refine Dr.read 9 _ 27 _ rfl rfl rfl rfl rfl (RV.of (by intro _ _ h; cases h) (.inl rfl) (fun _ xd => HV.ld rfl va25 (rdc_ext xd (cells_first hC21 rfl)))) ?_
      refine Dr.eff 10 _ _ rfl (by intro d h; cases h; exact ⟨rfl, rfl⟩) rfl rfl rfl (EC.of (by intro _ _ h; cases h) (.inl rfl) (WV.callv fn56 rfl rfl (equal_ok hk15.rd hk24.rd))) (fun v H' h => .inl (h.2)) ?_
      rintro _ H25 ⟨rfl, hx26⟩
      have X27 := Ext.trans X3 hx26
      have X28 := Ext.trans X14 hx26
      have ho29 := ho4.ext hx26
      refine Dr.fin rfl ?_
      refine nrm_and ?_
      refine AW.ifd rfl (fun c30 => ?_) (fun c30 => ?_)
      · -- then
        refine AW.rs ?_
        refine AL.val rfl (.inl rfl) (HV.mv rfl) ?_
        refine AL.val rfl (.inl rfl) (HV.mv rfl) ?_
        refine AL.val rfl (.inl rfl) (HV.tail sl37 rfl rfl (by omega) (by omega) hnc) ?_
        refine AL.val rfl (.inl rfl) (HV.as rfl) ?_
        refine AL.nx ?_
        refine AW.seq ?_
        refine AW.rs ?_
        refine AL.val rfl (.inl rfl) (HV.as rfl) ?_
        refine AL.nx ?_
        refine AW.block ?_
        refine AW.loop (σ := Nat × Nat × List RT) (fun ⟨m, k2, us⟩ => [(0, (.slice (some ⟨g, 0, none⟩) n c)), (1, (.func (.func 56) #[] #[])), (6, (.slice (some ⟨g, ((k : Int) : Int).toNat, none⟩) (n - ((k : Int) : Int).toNat) (c - ((k : Int) : Int).toNat))), (12, .int .i64 (k : Int)), (13, (.slice (some ⟨g, 0, none⟩) n c)), (14, .int .i64 (ts.length : Int)), (15, .bool (decide ((k : Int) < (ts.length : Int)))), (18, (.func (.func 56) #[] #[])), (19, (.slice (some ⟨g, 0, none⟩) n c)), (20, .int .i64 (k : Int)), (21, .pointer (some ⟨g6, ((k : Int) : Int).toNat * ((kT lab)).sz, none⟩)), (22, z7.1), (23, (.slice (some ⟨g, 0, none⟩) n c)), (24, .int .i64 (k : Int)), (25, .int .i64 ((k : Int) - 1)), (26, .pointer (some ⟨g16, ((k : Int) - 1 : Int).toNat * ((kT lab)).sz, none⟩)), (27, z17.1), (28, .bool (decide (z7.2.1 = z17.2.1))), (29, (.slice (some ⟨g, 0, none⟩) n c)), (30, .int .i64 (k : Int)), (31, (.slice (some ⟨g, ((k : Int) : Int).toNat, none⟩) (n - ((k : Int) : Int).toNat) (c - ((k : Int) : Int).toNat))), (0, (.slice (some ⟨g, 0, none⟩) n c)), (5, .int .i64 (m : Int)), (7, .int .i64 (k2 : Int))]) (fun ⟨m, k2, us⟩ H' => 1 ≤ k2 ∧ k + k2 ≤ ts.length ∧ m + 1 ≤ k + k2 ∧ us.length = ts.length ∧ us.take m = thinN ts (k + k2) ∧ (∀ j, k + k2 ≤ j + 1 → us.getD j nilT = ts.getD j nilT) ∧ But (fun b => b = g) H H' ∧ OwnK (kT lab) 25 W H' ok (.slice (some ⟨g, 0, none⟩) n c) us ∧ True) (fun ⟨m, k2, us⟩ => ts.length - (k + k2)) (k, 1, ts) ⟨Nat.le_refl _, by omega, by omega, rfl, by rw [thinN_n (fun q => q.elim (fun e => by omega) (fun e => e (by rw [gd hz9 rfl, gd (j := k - 1) hz19 (by omega)]; assumption))), thinN_take (by omega) hke], fun j hj => rfl, Ext.but X27 _, ho29, trivial⟩ ⟨rfl, rfl, rfl, rfl, rfl, rfl, rfl, rfl, rfl, rfl, rfl, rfl, rfl, rfl, rfl, rfl, rfl, rfl, rfl, rfl, rfl, rfl, rfl, rfl, trivial⟩ ?_
        rintro ⟨m, k2, us⟩ H31 ⟨hk21, hk2, hmk, hul, hut, hus, hB, hoU, _⟩
        have X32 := Ext.refl H31
        refine AW.seq ?_
        refine AW.rs ?_
        refine AL.val rfl (.inl rfl) (HV.mv rfl) ?_
        refine AL.val rfl (.inl rfl) (HV.mv rfl) ?_
        refine AL.val rfl (.inl rfl) (HV.len Tryz.underlying37 rfl ⟨_, _, rfl⟩) ?_
        refine AL.val rfl (.inl rfl) (HV.lti rfl rfl) ?_
        refine AL.nx ?_
        refine AW.ifd rfl (fun c33 => ?_) (fun c33 => ?_)
        · -- then
          refine AW.skip ?_
          refine nrm_and ?_
          refine AW.seq ?_
          refine AW.block ?_
          refine AW.seq ?_
          refine AW.draw' [0, 0, 0, 6, 14, 0, 0, 64, 224, 480, 1023, 2047] mixed (by rfl) ?_
          refine Dr.read 0 _ 38 _ rfl rfl rfl rfl rfl (RV.of (by intro _ _ h; cases h) (.inl rfl) (fun _ xd => HV.mv rfl)) ?_
          refine Dr.read 1 _ 39 _ rfl rfl rfl rfl rfl (RV.of (by intro _ _ h; cases h) (.inl rfl) (fun _ xd => HV.mv rfl)) ?_
          refine Dr.read 2 _ 40 _ rfl rfl rfl rfl rfl (RV.of (by intro _ _ h; cases h) (.inl rfl) (fun _ xd => HV.mv rfl)) ?_
          obtain ⟨g34, z35, cs36, hz37, hK38, hC39, hg40, hP41⟩ := OwnK.ixS (k := .i64) (q := (((k : Int)) + ((k2 : Int)))) hoU sl37 (by omega) (by omega)
          obtain rfl : g = g34 := (Option.some.inj hg40).symm
          obtain ⟨rfl, hk43⟩ := hK38
          refine Dr.read 3 _ 41 _ rfl rfl rfl rfl rfl (RV.of (by intro _ _ h; cases h) (.inl rfl) (fun _ xd => HV.ixTail sl37 (by omega) (by omega) rfl rfl)) ?_
          refine Dr.read 4 _ 42 _ rfl rfl rfl rfl rfl (RV.of (by intro _ _ h; cases h) (.inl rfl) (fun _ xd => HV.ld rfl va25 (rdc_ext xd (cells_first (by have q := hC39; rwa [show ((((k : Int)) + ((k2 : Int))) : Int).toNat = ((k : Int) : Int).toNat + ((k2 : Int) : Int).toNat by omega] at q) rfl)))) ?_
          refine Dr.read 5 _ 43 _ rfl rfl rfl rfl rfl (RV.of (by intro _ _ h; cases h) (.inl rfl) (fun _ xd => HV.mv rfl)) ?_
          refine Dr.read 6 _ 44 _ rfl rfl rfl rfl rfl (RV.of (by intro _ _ h; cases h) (.inl rfl) (fun _ xd => HV.mv rfl)) ?_
          refine Dr.read 7 _ 45 _ rfl rfl rfl rfl rfl (RV.of (by intro _ _ h; cases h) (.inl rfl) (fun _ xd => HV.sub rfl rfl (by omega))) ?_
          obtain ⟨g44, z45, cs46, hz47, hK48, hC49, hg50, hP51⟩ := OwnK.ixS (k := .i64) (q := (((k : Int)) + ((k2 : Int) - 1))) hoU sl37 (by omega) (by omega)
          obtain rfl : g = g44 := (Option.some.inj hg50).symm
          obtain ⟨rfl, hk53⟩ := hK48
          refine Dr.read 8 _ 46 _ rfl rfl rfl rfl rfl (RV.of (by intro _ _ h; cases h) (.inl rfl) (fun _ xd => HV.ixTail sl37 (by omega) (by omega) rfl rfl)) ?_
          refine Dr.read 9 _ 47 _ rfl rfl rfl rfl rfl (RV.of (by intro _ _ h; cases h) (.inl rfl) (fun _ xd => HV.ld rfl va25 (rdc_ext xd (cells_first (by have q := hC49; rwa [show ((((k : Int)) + ((k2 : Int) - 1)) : Int).toNat = ((k : Int) : Int).toNat + ((k2 : Int) - 1 : Int).toNat by omega] at q) rfl)))) ?_
          refine Dr.eff 10 _ _ rfl (by intro d h; cases h; exact ⟨rfl, rfl⟩) rfl rfl rfl (EC.of (by intro _ _ h; cases h) (.inl rfl) (WV.callv fn56 rfl rfl (equal_ok hk43.rd hk53.rd))) (fun v H' h => .inl (h.2)) ?_
          rintro _ H54 ⟨rfl, hx55⟩
          have X56 := Ext.trans X32 hx55
          have ho57 := hoU.ext hx55
          refine Dr.read 11 _ 49 _ rfl rfl rfl rfl rfl (RV.of (by intro _ _ h; cases h) (.inl rfl) (fun _ xd => HV.not rfl)) ?_
          refine Dr.fin rfl ?_
          refine nrm_and ?_
          refine AW.ifn rfl (fun c58 => ?_) (fun c58 => ?_)
          · -- then
            refine AW.rs ?_
            refine AL.val rfl (.inl rfl) (HV.mv rfl) ?_
            refine AL.val rfl (.inl rfl) (HV.mv rfl) ?_
            refine AL.val rfl (.inl rfl) (HV.mv rfl) ?_
            refine AL.val rfl (.inl rfl) (HV.mv rfl) ?_
            obtain ⟨g59, z60, cs61, hz62, hK63, hC64, hg65, hP66⟩ := OwnK.ixS (k := .i64) (q := (((k : Int)) + ((k2 : Int)))) ho57 sl37 (by omega) (by omega)
            obtain rfl : g = g59 := (Option.some.inj hg65).symm
            have X68 := Ext.refl H54
            obtain ⟨rfl, hk69⟩ := hK63
            refine AL.val rfl (.inl rfl) (HV.ixTail sl37 (by omega) (by omega) rfl rfl) ?_
            refine AL.val rfl (.inl rfl) (HV.ld rfl va25 (cells_first (by have q := hC64; rwa [show ((((k : Int)) + ((k2 : Int))) : Int).toNat = ((k : Int) : Int).toNat + ((k2 : Int) : Int).toNat by omega] at q) rfl)) ?_
            obtain ⟨g70, z71, cs72, hz73, hK74, hC75, hg76, hP77⟩ := OwnK.ix (q := (m : Int)) ho57 sl37 (by omega) (by omega)
            obtain ⟨rfl, hk78⟩ := hK74
            refine AL.val rfl (.inl rfl) (hP77 rfl rfl) ?_
            refine AL.w0 (.inl rfl) (WV.stK (x' := z60) ho57 hg76 rfl rfl va25 (by omega) ⟨by obtain ⟨A_, c_, e_⟩ := hk69.isSl; rw [e_]; rfl, hk69⟩ (fun b hb _ => hb.2)) ?_
            rintro _ H79 ⟨hx80, ho81⟩
            have ho82 := ho81.okk (ok' := ok) (fun b hb _ => hb.elim id (fun h => h.1))
            have ch83 := But.trans hB (But.mono (But.trans (Ext.but X56 _) hx80) (fun b e => by cases e; rfl))
            have X84 := Ext.refl H79
            refine AL.nx ?_
            refine AW.reg ?_
            refine AL.val rfl (.inl rfl) (HV.mv rfl) ?_
            refine AL.val rfl (.inl rfl) (HV.add rfl rfl (by omega)) ?_
            refine AL.val rfl (.inl rfl) (HV.as rfl) ?_
            refine AL.nil ?_
            refine nrm_blk (nrm_and ?_)
            refine AW.reg ?_
            refine AL.val rfl (.inl rfl) (HV.mv rfl) ?_
            refine AL.val rfl (.inl rfl) (HV.add rfl rfl (by omega)) ?_
            refine AL.val rfl (.inl rfl) (HV.as rfl) ?_
            refine AL.nil ?_
            refine nrm_and ?_
            exact ⟨(m + 1, k2 + 1, (us.set (m : Int).toNat z60)), ⟨by omega, by omega, by omega, by rw [List.length_set]; exact hul, tk_set (by omega) hut (thinN_y (n := k + k2) (show keepT ts (k + k2) from .inr (by show (ts.getD (k + k2) nilT).2.1 ≠ (ts.getD (k + k2 - 1) nilT).2.1; rw [← hus (k + k2) (by omega), ← hus (k + k2 - 1) (by omega), (gd (j := k + k2) (d := nilT) hz37 (by omega)), (gd (j := k + k2 - 1) (d := nilT) hz47 (by omega))]; assumption))) (by rw [← hus (k + k2) (by omega)]; exact (gd (j := k + k2) (d := nilT) hz62 (by omega)).symm), fun j hj => by rw [List.getD_eq_getElem?_getD, List.getElem?_set_ne (by omega), ← List.getD_eq_getElem?_getD]; exact hus j (by omega), ch83, ho82, trivial⟩, by first | omega | (dsimp only; omega), ⟨rfl, rfl, rfl, rfl, rfl, rfl, rfl, rfl, rfl, rfl, rfl, rfl, rfl, rfl, rfl, rfl, rfl, rfl, rfl, rfl, rfl, rfl, rfl, rfl, trivial⟩⟩
          · -- else
            refine AW.skip ?_
            refine nrm_blk (nrm_and ?_)
            refine AW.reg ?_
            refine AL.val rfl (.inl rfl) (HV.mv rfl) ?_
            refine AL.val rfl (.inl rfl) (HV.add rfl rfl (by omega)) ?_
            refine AL.val rfl (.inl rfl) (HV.as rfl) ?_
            refine AL.nil ?_
            refine nrm_and ?_
            exact ⟨(m, k2 + 1, us), ⟨by omega, by omega, by omega, hul, hut.trans (thinN_n (n := k + k2) (fun q => q.elim (fun e => by omega) (fun e => e (by show (ts.getD (k + k2) nilT).2.1 = (ts.getD (k + k2 - 1) nilT).2.1; rw [← hus (k + k2) (by omega), ← hus (k + k2 - 1) (by omega), (gd (j := k + k2) (d := nilT) hz37 (by omega)), (gd (j := k + k2 - 1) (d := nilT) hz47 (by omega))]; first | assumption | (exact Decidable.not_not.1 (by assumption)))))).symm, fun j hj => hus j (by omega), But.trans hB (Ext.but X56 _), ho57, trivial⟩, by first | omega | (dsimp only; omega), ⟨rfl, rfl, rfl, rfl, rfl, rfl, rfl, rfl, rfl, rfl, rfl, rfl, rfl, rfl, rfl, rfl, rfl, rfl, rfl, rfl, rfl, rfl, rfl, rfl, trivial⟩⟩
        · -- else
          refine AW.exit ?_
          refine ex_and (ex_and (ex_blk ?_))
          refine nrm_and ?_
          refine AW.rs ?_
          refine AL.val rfl (.inl rfl) (HV.mv rfl) ?_
          refine AL.val rfl (.inl rfl) (HV.mv rfl) ?_
          refine AL.val rfl (.inl rfl) (HV.tail sl37 rfl rfl (by omega) (by omega) hnc) ?_
          refine AL.w0 (.inl rfl) (WV.clrF (n := n) (k := ((m : Int) : Int).toNat) sl37 rfl rfl hoU (hul.trans hn) (by omega)) ?_
          rintro _ H85 ⟨hx86, ho87⟩
          have X88 := Ext.refl H85
          refine AL.nx ?_
          refine AW.rs ?_
          refine AL.val rfl (.inl rfl) (HV.mv rfl) ?_
          refine AL.val rfl (.inl rfl) (HV.mv rfl) ?_
          refine AL.val rfl (.inl rfl) (HV.front sl37 rfl rfl (by omega) (by omega)) ?_
          refine AL.val rfl (.inl rfl) (HV.as rfl) ?_
          refine AL.nx ?_
          refine AW.ret ?_
          refine ret_blk (ret_and (ret_and (ret_blk (ret_and ?_))))
          refine post_one rfl rfl ?_ (.inr rfl)
          exact ⟨⟨_, rfl, by rw [show ts.length = k + k2 by omega, ← hut]; have q := ho87; rwa [Int.toNat_natCast] at q ⊢⟩, (But.trans (But.trans hB (Ext.but X32 _)) hx86)⟩
      · -- else
        refine AW.skip ?_
        refine nrm_blk (nrm_and ?_)
        refine AW.reg ?_
        refine AL.val rfl (.inl rfl) (HV.mv rfl) ?_
        refine AL.val rfl (.inl rfl) (HV.add rfl rfl (by omega)) ?_
        refine AL.val rfl (.inl rfl) (HV.as rfl) ?_
        refine AL.nil ?_
        refine nrm_and ?_
        exact ⟨k + 1, ⟨X27, ho29, by omega, by omega, fun j hj => by
      rcases Nat.lt_or_ge j k with h1 | h1
      · exact hke j h1
      · obtain rfl : j = k := by omega
        exact .inr (by rw [gd hz9 rfl, gd hz19 (by omega)]; assumption), trivial⟩, by first | omega | (dsimp only; omega), ⟨rfl, rfl, rfl, trivial⟩⟩
    · -- else
      refine AW.exit ?_
      refine ex_and (ex_and (ex_blk ?_))
      refine nrm_and ?_
      refine AW.rs ?_
      refine AL.val rfl (.inl rfl) (HV.mv rfl) ?_
      refine AL.val rfl (.inl rfl) (HV.as rfl) ?_
      refine AL.nx ?_
      refine AW.ret ?_
      refine post_one rfl rfl ?_ (.inr rfl)
      exact ⟨⟨n, rfl, by rw [thinN_take (Nat.le_refl _) (fun j hj => by first | exact hke j (by omega) | exact .inl (by omega)), List.take_length]; exact ho4⟩, Ext.but X3 _⟩
end Go.Proofs.YtbjcgcililpfdaaGreat.VC

