/- Walks. -/
import Derived.Test.YticobjbjejpomaaZF22
set_option linter.unusedVariables false
set_option linter.unusedSimpArgs false
namespace Go.Proofs.Yticobjbjejpomaa.VC
open Go Go.RowKit
variable {W : World} {H : Hp}

theorem bd29_0_1_ (x0 x1 : Int) : Try.prog.built 29 [(0, .int .i64 x0), (1, .int .i64 x1)] = some #[.int .i64 x0, .int .i64 x1, .slice none 0 0] := by kernel_rfl
theorem bd31_0_1_2 (x0 x2 x3 : Int) {x1 : Value} {n1 : Nat} (h1 : IsSl x1 n1) : Try.prog.built 31 [(0, .int .i64 x0), (1, x1), (2, .agg #[.int .i64 x2, .int .i64 x3, .slice none 0 0])] = some #[.int .i64 x0, x1, .int .i64 x2, .int .i64 x3, .slice none 0 0] := by obtain ⟨A1, c1, rfl⟩ := h1; kernel_rfl

set_option maxRecDepth 100000 in
theorem l04Gate_ok {d : Nat} {pg : Addr} {okg : Nat → Prop} {z : GT d} {a l : Int} {v : Value} (hK : (kG d).rd W H okg z [.int .i64 a, .int .i64 l, v]) (hcg : Cells W H pg [.int .i64 a, .int .i64 l, v]) {p n : Int} (hW : W.heap.size ≤ H.bd) (hv : vG n d z) (hp : 2 ≤ p ∧ p ≤ 31) : ACalls Try.prog W 101 #[.int .i64 p, .int .i64 n, .pointer (some pg)] H (fun r H' => (∃ (u v : Value) (la : Nat → Nat), r = .tuple #[.agg #[.int .i64 (zI (lgC n p d z) n), u, .int .i64 (zI (lgC n p d z) p), .int .i64 (zI (lgC n p d z) (gsK p d z : Int)), v], .int .i64 (lgC n p d z)] ∧ OwnK kI 2 W H' (fun b => H.bd ≤ b ∧ la b = 0) u (zL (lgC n p d z) (gsO p d z)) ∧ OwnD (kO 2 kI) 22 W H' (fun b => H.bd ≤ b ∧ la b = 1) v (zL (lgC n p d z) (gsL p d z))) ∧ Ext H H') := by
  refine ACalls.of (args := [.int .i64 p, .int .i64 n, .pointer (some pg)]) Try.func101 rfl rfl ?_
  have X0 := Ext.refl H
  obtain ⟨_, isl0⟩ := gk_isl hK
  have hszz := hv.2.1
  refine AW.rs ?_
  refine AL.w rfl (.inl rfl) (WV.al ze31 rfl) ?_
  rintro _ H2 ⟨b1, rfl, hx3, hn4, hb5⟩
  have o6 := Nat.le_trans X0.bd hn4
  have X7 := Ext.trans X0 hx3
  have X8 := Ext.refl H2
  refine AL.val rfl (.inl rfl) (HV.as rfl) ?_
  refine AL.nx ?_
  refine AW.seq ?_
  refine AW.rs ?_
  refine AL.val rfl (.inl rfl) (HV.mv rfl) ?_
  refine AL.val rfl (.inl rfl) (HV.mv rfl) ?_
  refine AL.w rfl (.inl rfl) (WV.call fn154 rfl (l04Wide_all d (Kd.ext (kG d) hK X7) (hcg.ext X7) p)) ?_
  rintro _ H9 ⟨rfl, hx10⟩
  have X11 := Ext.trans X7 hx10
  have X12 := Ext.trans X8 hx10
  have hb13 := hb5.ext hx10
  refine AL.nx ?_
  refine AW.ifd rfl (fun c14 => ?_) (fun c14 => ?_)
  · -- then
    refine AW.rs ?_
    refine AL.val rfl (.inl rfl) (HV.bd rfl (bd31_ )) ?_
    refine AL.w0 (.inl rfl) (WV.st rfl rfl va31 rfl hb13 (Nat.le_of_ble_eq_true rfl) (one_cons rfl (one_cons (sl_one1 ⟨none, 0, rfl⟩) (one_cons rfl (one_cons rfl (one_cons (sl_one1 ⟨none, 0, rfl⟩) one_nil)))))) ?_
    rintro _ H15 ⟨hx16, hb17⟩
    have X18 := Ext.thru X11 hx16 (fun z_ hz_ => by rw [hz_]; exact o6)
    have q20 := Nat.le_trans X12.bd hx16.bd
    have hb21 : At W H15 b1 ⟨31, [.int .i64 0, (.slice none 0 0), .int .i64 0, .int .i64 0, (.slice none 0 0)], 5⟩ := hb17
    refine AL.val rfl (.inl rfl) (HV.as rfl) ?_
    refine AL.nx ?_
    refine AW.ret ?_
    refine ret_and ?_
    refine post_ct rfl rfl rfl va31 hb21 ?_ (.inr rfl)
    have hC : (lgC n p d z) = 4 := lgC_w c14; have hC0 : (lgC n p d z) ≠ 0 := (by omega); exact ⟨⟨.slice none 0 0, .slice none 0 0, fun _ => 0, by rw [zI_no hC0, zI_no hC0, zI_no hC0, hC] <;> rfl, by rw [zL_no hC0]; exact OwnK.nil _, by rw [zL_no hC0]; exact OwnD.nil _⟩, X18⟩
  · -- else
    refine AW.skip ?_
    refine nrm_and ?_
    refine AW.rs ?_
    have hwd : ¬ wdG p d z := c14
    refine AL.val rfl (.inl rfl) (HV.mv rfl) ?_
    refine AL.val rfl (.inl rfl) (HV.bd rfl (bd182_0_1 p 1)) ?_
    have X22 := Ext.refl H9
    have hqH : H.bd ≤ H9.bd := X11.bd
    have lk23 : b1 < H9.bd := hb13.lt
    refine AL.w rfl (.inl rfl) (WV.bx rfl rfl) ?_
    rintro _ H25 ⟨b24, rfl, hx26, hn27, hb28⟩
    have o29 := Nat.le_trans X11.bd hn27
    have o30 := Nat.le_trans X12.bd hn27
    have o31 := Nat.le_trans X22.bd hn27
    have ne32 : b1 ≠ b24 := by have := hb13.lt; omega
    have X33 := Ext.trans X11 hx26
    have X34 := Ext.trans X12 hx26
    have X35 := Ext.trans X22 hx26
    have hb36 := hb13.ext hx26
    have X37 := Ext.refl H25
    refine AL.val rfl (.inl rfl) (HV.as rfl) ?_
    refine AL.nx ?_
    refine AW.rs ?_
    refine AL.val rfl (.inl rfl) (HV.mv rfl) ?_
    refine AL.val rfl (.inl rfl) (HV.mv rfl) ?_
    have y38 := hb36.lt
    have y39 := hb28.lt
    have o40 := X33.bd
    have o41 := X34.bd
    have o42 := X35.bd
    have o43 := X37.bd
    refine AL.w rfl (.inl rfl) (WV.bsK (K := kI) (l := ([1] : List Int)) (css := [[.int .i64 1]]) sl22 rfl rfl (by first | rfl | (simp [Instr.fill, Value.cells, kI, kB, kU, kU8, kS, Kd.sc]; done) | (simp [Instr.fill, Value.cells, kI, kB, kU, kU8, kS, Kd.sc, rng1, rng2, rng3, rng4, kP])) rfl (segs_cons rfl segs_nil)) ?_
    rintro v44 H45 ⟨hx46, ho47⟩
    have X48 := Ext.trans X33 hx46
    have X49 := Ext.trans X34 hx46
    have X50 := Ext.trans X35 hx46
    have X51 := Ext.trans X37 hx46
    have hb52 := hb36.ext hx46
    have hb53 := hb28.ext hx46
    have hMn : Mk W H45 182 22 b24 (fun y => y < H9.bd ∨ some y = v44.ownBlock) p (1, [], []) := Mk.new (c := 1) hb53 (fun q => by have q1 := o31; have q2 := hb53.lt; rcases q with q | q; (omega); (have q3 : H25.bd ≤ _ := (ho47.blk _ q).1; have q4 := (show b24 < H25.bd by omega); omega))
    refine AL.w rfl (.inl rfl) (WV.call fn155 rfl (node_all d (HB := H) (av := fun y => y < H9.bd) hW hK hcg X48 hMn (ho47.narrow kI_flat (fun y e => e)) (fun y hy => Nat.lt_of_lt_of_le hy hqH) (fun y hy => Nat.lt_of_lt_of_le hy X50.bd) (fun y hy e => by have q1 : y < H9.bd := hy; have q2 : H25.bd ≤ y := (ho47.blk y e).1; have q3 := o42; omega) hv.2.2.2 hwd hp ⟨by decide, by decide⟩ ⟨by show 1 + 2 * _ ≤ 140; omega, by show 0 + _ ≤ 70; omega, by show 0 + _ ≤ 70; omega⟩)) ?_
    rintro _ H55 ⟨e_, hM56, hB57⟩
    have X58 := Ext.thru X48 hB57 (fun y hy => Nat.le_trans hqH (Nat.le_of_not_lt hy))
    have X59 := Ext.thru X50 hB57 (fun y hy => Nat.le_trans (Nat.le_refl _) (Nat.le_of_not_lt hy))
    have hb60 := hb52.but hB57 (fun e => e (by assumption))
    have X61 := Ext.refl H55
    obtain ⟨S, hS⟩ : ∃ S, S = nodeG (kdS p) d z [1] (1, [], []) := ⟨_, rfl⟩
    have hinc := node_inc (kid := kdS p) (n := n) d z [1] (1, [], []) hv.2.2.2
    obtain ⟨hI1, hI2, hI3, hI4⟩ := hinc
    have hnr := node_rows (p := p) hv.2.2.2
    rw [← hS] at hM56 hI1 hI2 hI3 hI4 hnr
    replace hI2 : S.1 + 1 ≤ 1 + szG d z := hI2
    replace hI3 : S.2.1.length ≤ 0 + szG d z := hI3
    replace hI4 : S.2.2.length ≤ 0 + szG d z := hI4
    obtain ⟨vo0, vr0, hat0, ⟨no0, hio0⟩, ⟨nr0, hir0⟩, hnb0, _, _⟩ := hM56.box
    refine AL.nx ?_
    refine AW.seq ?_
    refine AW.draw' [0, 0, 2, 6, 14, 0, 0, 64, 192, 448, 992, 2047, 0, 8191] mixed (by rfl) ?_
    refine Dr.read 0 _ 23 _ rfl rfl rfl rfl rfl (RV.of (by intro _ _ h; cases h) (.inl rfl) (fun _ xd => HV.mv rfl)) ?_
    refine Dr.read 1 _ 24 _ rfl rfl rfl rfl rfl (RV.of (by intro _ _ h; cases h) (.inl rfl) (fun _ xd => HV.mv rfl)) ?_
    refine Dr.read 2 _ 25 _ rfl rfl rfl rfl rfl (RV.of (by intro _ _ h; cases h) (.inl rfl) (fun _ xd => HV.nc rfl)) ?_
    refine Dr.read 3 _ 26 _ rfl rfl rfl rfl rfl (RV.of (by intro _ _ h; cases h) (.inl rfl) (fun _ xd => HV.fa fl182_2 rfl)) ?_
    refine Dr.read 4 _ 27 _ rfl rfl rfl rfl rfl (RV.of (by intro _ _ h; cases h) (.inl rfl) (fun _ xd => HV.ld rfl va22 (rdc_ext xd (at_cell_add (j := 2) hat0 rfl)))) ?_
    refine Dr.read 5 _ 28 _ rfl rfl rfl rfl rfl (RV.of (by intro _ _ h; cases h) (.inl rfl) (fun _ xd => HV.mv rfl)) ?_
    refine Dr.read 6 _ 29 _ rfl rfl rfl rfl rfl (RV.of (by intro _ _ h; cases h) (.inl rfl) (fun _ xd => HV.mv rfl)) ?_
    refine Dr.read 7 _ 30 _ rfl rfl rfl rfl rfl (RV.of (by intro _ _ h; cases h) (.inl rfl) (fun _ xd => HV.nc rfl)) ?_
    refine Dr.read 8 _ 31 _ rfl rfl rfl rfl rfl (RV.of (by intro _ _ h; cases h) (.inl rfl) (fun _ xd => HV.fa fl182_1 rfl)) ?_
    refine Dr.read 9 _ 32 _ rfl rfl rfl rfl rfl (RV.of (by intro _ _ h; cases h) (.inl rfl) (fun _ xd => HV.ld rfl va2 (rdc_ext xd (at_cell_add (j := 1) hat0 rfl)))) ?_
    refine Dr.read 10 _ 33 _ rfl rfl rfl rfl rfl (RV.of (by intro _ _ h; cases h) (.inl rfl) (fun _ xd => HV.bd rfl (bd29_0_1_ p (S.1 : Int)))) ?_
    refine Dr.read 11 _ 34 _ rfl rfl rfl rfl rfl (RV.of (by intro _ _ h; cases h) (.inl rfl) (fun _ xd => HV.bd rfl (bd31_0_1_2 n p (S.1 : Int) hio0))) ?_
    refine Dr.eff 12 _ _ rfl (by intro d h; cases h; exact ⟨rfl, rfl⟩) rfl rfl rfl (EC.of (by intro _ _ h; cases h) (.inl rfl) (WV.al ze31 rfl)) (fun v H' h => .inl (h.choose_spec.2.1)) ?_
    rintro _ H63 ⟨b62, rfl, hx64, hn65, hb66⟩
    have o67 := Nat.le_trans X58.bd hn65
    have o68 := Nat.le_trans X59.bd hn65
    have o69 := Nat.le_trans X61.bd hn65
    have ne70 : b1 ≠ b62 := by have := hb60.lt; omega
    have ne71 : b24 ≠ b62 := by have := hat0.lt; omega
    have X72 := Ext.trans X58 hx64
    have X73 := Ext.trans X59 hx64
    have X74 := Ext.trans X61 hx64
    have hb75 := hb60.ext hx64
    have hb76 := hat0.ext hx64
    have X77 := Ext.refl H63
    refine Dr.eff 13 _ _ rfl (by intro d h; cases h) rfl rfl rfl (EC.of (by intro _ _ h; cases h) (.inl rfl) (WV.st rfl rfl va31 rfl hb66 (Nat.le_of_ble_eq_true rfl) (one_cons rfl (one_cons (sl_one1 (hio0.ext X74).isSl) (one_cons rfl (one_cons rfl (one_cons (sl_one1 ⟨none, 0, rfl⟩) one_nil))))))) (fun v H' h => .inr (.inl rfl)) ?_
    rintro _ H78 ⟨hx79, hb80⟩
    have X81 := Ext.thru X72 hx79 (fun z_ hz_ => by rw [hz_]; exact o67)
    have X82 := Ext.thru X73 hx79 (fun z_ hz_ => by rw [hz_]; exact o68)
    have X83 := Ext.thru X74 hx79 (fun z_ hz_ => by rw [hz_]; exact o69)
    have q85 := Nat.le_trans X77.bd hx79.bd
    have hb86 := hb75.but hx79 ne70
    have hb87 := hb76.but hx79 ne71
    have hb88 : At W H78 b62 ⟨31, [.int .i64 n, vo0, .int .i64 p, .int .i64 (S.1 : Int), (.slice none 0 0)], 5⟩ := hb80
    refine Dr.fin rfl ?_
    refine nrm_and ?_
    refine AW.seq ?_
    refine AW.rs ?_
    obtain ⟨lab0, vo, vr, vs, hV0⟩ := Mvr.start (T9 := 31) (n := n) (B := H9.bd) hM56 (fun y hy => hy) X83 o69 (X59.bd) (fun vo vr q => by rw [(At.two q hat0).1]; exact hb88)
    obtain ⟨ev1, ev2⟩ := At.two hV0.at_ (hat0.ext X83)
    subst ev1
    subst ev2
    have hnr0 : nr0 = S.2.2.length := (IsSl.uniq hir0 hV0.raw.isSl).trans hV0.len
    refine AL.val rfl (.inl rfl) (HV.as rfl) ?_
    refine AL.nx ?_
    refine AW.block ?_
    refine AW.loop (σ := Nat × Value × List Value) (fun ⟨i, vout, ws⟩ => [(6, .pointer (some ⟨b1, 0, none⟩)), (7, .int .i64 0), (8, .pointer (some ⟨b24, 0, none⟩)), (9, .pointer (some ⟨b62, 0, none⟩)), (10, .int .i64 (i : Int))]) (fun ⟨i, vout, ws⟩ H' => Ext H H' ∧ Ext H9 H' ∧ At W H' b1 ⟨31, [.int .i64 0, (.slice none 0 0), .int .i64 0, .int .i64 0, (.slice none 0 0)], 5⟩ ∧ i ≤ S.2.2.length ∧ (∃ lab, Mvr W H' 182 22 31 b24 b62 H9.bd lab p n S vo vr vs vout ws i) ∧ True) (fun ⟨i, vout, ws⟩ => S.2.2.length - i) (0, (.slice none 0 0), []) ⟨X81, X82, hb86, Nat.zero_le _, ⟨lab0, hV0⟩, trivial⟩ ⟨rfl, rfl, rfl, rfl, rfl, trivial⟩ ?_
    rintro ⟨i, vout, ws⟩ H89 ⟨X90, X91, hb92, hi, hMv, _⟩
    have X94 := Ext.refl H89
    obtain ⟨lab, hV⟩ := hMv
    have hoO := hV.out.narrow (ok' := fun y => H9.bd ≤ y ∧ some y = vout.ownBlock) kV_flat (fun y q => ⟨(hV.out.blk y q).1.1, q⟩)
    have hne89 : b24 ≠ b62 := fun e => by have q1 := hV.lb; have q2 := hV.l9; rw [e] at q1; omega
    have hbm9 := hV.bB
    have hb99 := hV.b9B
    have hmw := hV.lw
    have hml := hV.len
    have hapO8 : ∀ y, some y = vout.ownBlock → y = b24 → False := fun y h1 h2 => by have q1 := (hV.out.blk y h1).1.2; have q2 := hV.lb; have q3 := hV.l9; rw [h2] at q1; omega
    have hapO9 : ∀ y, some y = vout.ownBlock → y = b62 → False := fun y h1 h2 => by have q1 := (hV.out.blk y h1).1.2; have q2 := hV.lb; have q3 := hV.l9; rw [h2] at q1; omega
    have ne93 : b1 ≠ b62 := by omega
    refine AW.seq ?_
    refine AW.rs ?_
    refine AL.val rfl (.inl rfl) (HV.mv rfl) ?_
    refine AL.val rfl (.inl rfl) (HV.mv rfl) ?_
    refine AL.val rfl (.inl rfl) (HV.nc rfl) ?_
    refine AL.val rfl (.inl rfl) (HV.fa fl182_3 rfl) ?_
    refine AL.val rfl (.inl rfl) (HV.ld rfl va23 (at_cell_add (j := 3) hV.at_ rfl)) ?_
    refine AL.val rfl (.inl rfl) (HV.len Try.underlying23 rfl (hV.raw.rd).isSl) ?_
    refine AL.val rfl (.inl rfl) (HV.lti rfl rfl) ?_
    refine AL.nx ?_
    refine AW.ifd rfl (fun c95 => ?_) (fun c95 => ?_)
    · -- then
      refine AW.skip ?_
      refine nrm_and ?_
      refine AW.seq ?_
      refine AW.block ?_
      refine AW.rs ?_
      refine AL.val rfl (.inl rfl) (HV.mv rfl) ?_
      refine AL.val rfl (.inl rfl) (HV.nc rfl) ?_
      refine AL.val rfl (.inl rfl) (HV.fa fl182_3 rfl) ?_
      refine AL.val rfl (.inl rfl) (HV.ld rfl va23 (at_cell_add (j := 3) hV.at_ rfl)) ?_
      refine AL.val rfl (.inl rfl) (HV.mv rfl) ?_
      obtain ⟨p96, z97, cs98, hz99, hK100, hC101, hP102⟩ := RdK.ix (q := (i : Int)) (hV.raw.rd) sl23 (by omega) (by omega)
      obtain ⟨rfl, n104, isl103⟩ : cs98 = [z97] ∧ ∃ n, IsSl z97 n := hK100
      refine AL.val rfl (.inl rfl) (hP102 rfl rfl) ?_
      refine AL.val rfl (.inl rfl) (HV.ld rfl va22 (cells_first hC101 rfl)) ?_
      have hil := (List.getElem?_eq_some_iff.1 (getq hz99 rfl)).1
      have hxi : S.2.2[i]? = some (S.2.2.getD i []) := by rw [List.getD_eq_getElem?_getD, List.getElem?_eq_getElem (by omega)]; rfl
      have hcu := hV.rest i z97 (S.2.2.getD i []) (Nat.le_refl _) (getq hz99 rfl) hxi
      have hRl : (S.2.2.getD i []).length ≤ S.1 := hnr.2.2.2.1 _ (List.mem_of_getElem? hxi)
      have hoC := hcu.narrow (ok' := fun y => H9.bd ≤ y ∧ some y = z97.ownBlock) kI_flat (fun y q => ⟨(hcu.blk y q).1.1, q⟩)
      have hdOC : ∀ y, some y = vout.ownBlock → some y = z97.ownBlock → False := fun y h1 h2 => by have q1 := (hV.out.blk y h1).1.2; have q2 := (hcu.blk y h2).1.2; omega
      have hapC8 : ∀ y, some y = z97.ownBlock → y = b24 → False := fun y h1 h2 => by have q1 := (hcu.blk y h1).1.2; have q2 := hV.lb; have q3 := hV.l9; rw [h2] at q1; omega
      have hapC9 : ∀ y, some y = z97.ownBlock → y = b62 → False := fun y h1 h2 => by have q1 := (hcu.blk y h1).1.2; have q2 := hV.lb; have q3 := hV.l9; rw [h2] at q1; omega
      have hchn := But.refl (fun y => y = b62 ∨ some y = vout.ownBlock ∨ some y = z97.ownBlock) H89
      have hlbn : ∀ y, some y = z97.ownBlock → some y = z97.ownBlock ∨ H89.bd ≤ y := fun y q => .inl q
      refine AL.val rfl (.inl rfl) (HV.as rfl) ?_
      refine AL.nx ?_
      refine AW.seq ?_
      refine AW.block ?_
      refine AW.loop (σ := Nat × Value) (fun ⟨k0, vw⟩ => [(6, .pointer (some ⟨b1, 0, none⟩)), (7, .int .i64 0), (8, .pointer (some ⟨b24, 0, none⟩)), (9, .pointer (some ⟨b62, 0, none⟩)), (10, .int .i64 (i : Int)), (35, .int .i64 (i : Int)), (36, .pointer (some ⟨b24, 0, none⟩)), (37, .pointer (some ⟨b24, 0, none⟩)), (38, .pointer (some ⟨b24, 3, none⟩)), (39, vr), (40, .int .i64 (vs.length : Int)), (41, .bool (decide ((i : Int) < (vs.length : Int)))), (44, .pointer (some ⟨b24, 0, none⟩)), (45, .pointer (some ⟨b24, 0, none⟩)), (46, .pointer (some ⟨b24, 3, none⟩)), (47, vr), (48, .int .i64 (i : Int)), (49, .pointer (some p96)), (50, z97), (11, vw)]) (fun ⟨k0, vw⟩ H' => Ext H H' ∧ Ext H9 H' ∧ At W H' b1 ⟨31, [.int .i64 0, (.slice none 0 0), .int .i64 0, .int .i64 0, (.slice none 0 0)], 5⟩ ∧ At W H' b24 ⟨182, [.int .i64 p, .int .i64 (S.1 : Int), vo, vr], 4⟩ ∧ At W H' b62 ⟨31, [.int .i64 n, vo, .int .i64 p, .int .i64 (S.1 : Int), vout], 5⟩ ∧ But (fun y => y = b62 ∨ some y = vout.ownBlock ∨ some y = z97.ownBlock) H89 H' ∧ H89.bd ≤ H'.bd ∧ (S.2.2.getD i []).length + k0 ≤ S.1 ∧ (∀ x, some x = vw.ownBlock → some x = z97.ownBlock ∨ H89.bd ≤ x) ∧ (∀ y, some y = vout.ownBlock → some y = vw.ownBlock → False) ∧ OwnK kI 2 W H' (fun b => H9.bd ≤ b ∧ some b = vw.ownBlock) vw ((S.2.2.getD i []) ++ List.replicate k0 0) ∧ OwnK kV 22 W H' (fun b => H9.bd ≤ b ∧ some b = vout.ownBlock) vout ws ∧ True) (fun ⟨k0, vw⟩ => S.1 - ((S.2.2.getD i []).length + k0)) (0, z97) ⟨X90, X91, hb92, hV.at_, hV.at9, hchn, (Nat.le_refl _), by omega, hlbn, hdOC, by have q := hoC; simpa using q, hoO, trivial⟩ ⟨rfl, rfl, rfl, rfl, rfl, rfl, rfl, rfl, rfl, rfl, rfl, rfl, rfl, rfl, rfl, rfl, rfl, rfl, rfl, rfl, trivial⟩ ?_
      rintro ⟨k0, vw⟩ H105 ⟨X106, X107, hb108, hb109, hb110, ch111, q112, hk0, hlw, hdw, hoW, hoO2, _⟩
      have ha8 : ∀ y, some y = vw.ownBlock → y = b24 → False := fun y h1 h2 => (hlw y h1).elim (fun e => hapC8 y e h2) (fun e => by have q := hV.at_.lt; omega)
      have ha9 : ∀ y, some y = vw.ownBlock → y = b62 → False := fun y h1 h2 => (hlw y h1).elim (fun e => hapC9 y e h2) (fun e => by have q := hV.at9.lt; omega)
      have hkl : ((S.2.2.getD i []) ++ List.replicate k0 (0 : Int)).length = (S.2.2.getD i []).length + k0 := by simp
      refine AW.seq ?_
      refine AW.rs ?_
      refine AL.val rfl (.inl rfl) (HV.mv rfl) ?_
      refine AL.val rfl (.inl rfl) (HV.len Try.underlying22 rfl hoW.rd.isSl) ?_
      refine AL.val rfl (.inl rfl) (HV.mv rfl) ?_
      refine AL.val rfl (.inl rfl) (HV.nc rfl) ?_
      refine AL.val rfl (.inl rfl) (HV.fa fl182_1 rfl) ?_
      refine AL.val rfl (.inl rfl) (HV.ld rfl va2 (at_cell_add (j := 1) hb109 rfl)) ?_
      refine AL.val rfl (.inl rfl) (HV.lti rfl rfl) ?_
      refine AL.nx ?_
      refine AW.ifd rfl (fun c113 => ?_) (fun c113 => ?_)
      · -- then
        refine AW.skip ?_
        refine nrm_and ?_
        refine AW.block ?_
        refine AW.reg ?_
        refine AL.val rfl (.inl rfl) (HV.mv rfl) ?_
        have X114 := Ext.refl H105
        have y115 := hb108.lt
        have y116 := hb109.lt
        have y117 := hb110.lt
        have o118 := X106.bd
        have o119 := X107.bd
        have o120 := X114.bd
        have a121 := hoO2.ltb
        have a122 := hoW.ltb
        refine AL.w rfl (.inl rfl) (WV.bsK (K := kI) (l := ([0] : List Int)) (css := [[.int .i64 0]]) sl22 rfl rfl (by first | rfl | (simp [Instr.fill, Value.cells, kI, kB, kU, kU8, kS, Kd.sc]; done) | (simp [Instr.fill, Value.cells, kI, kB, kU, kU8, kS, Kd.sc, rng1, rng2, rng3, rng4, kP])) rfl (segs_cons rfl segs_nil)) ?_
        rintro v123 H124 ⟨hx125, ho126⟩
        have ch127 := But.trans ch111 (Ext.but hx125 _)
        have q128 := Nat.le_trans q112 hx125.bd
        have X129 := Ext.trans X106 hx125
        have X130 := Ext.trans X107 hx125
        have X131 := Ext.trans X114 hx125
        have ho132 := hoO2.ext hx125
        have ho133 := hoW.ext hx125
        have hb134 := hb108.ext hx125
        have hb135 := hb109.ext hx125
        have hb136 := hb110.ext hx125
        have X138 := Ext.refl H124
        refine AL.w rfl (.inl rfl) (WV.apk sl22 rfl rfl ho133 ho126.rd (by rw [hkl, List.length_singleton]; omega) (by rw [hkl, List.length_singleton]; omega) (fun b hb _ e => Nat.lt_irrefl _ (Nat.lt_of_lt_of_le (a122 b e) hb))) ?_
        rintro v139 H140 ⟨hx141, ho142, hb143⟩
        have ho144 := ho142.narrow (ok' := fun b => H9.bd ≤ b ∧ some b = v139.ownBlock) kI_flat (fun b q => ⟨(hb143 b q).elim (fun e => (ho133.blk b e).1.1) (fun e => Nat.le_trans X130.bd e), q⟩)
        have d145 : ∀ b, some b = vout.ownBlock → some b = v139.ownBlock → False := fun b h1 h2 => (hb143 b h2).elim (fun e => hdw b h1 e) (fun e => by have := (ho132.blk b h1).2.1; omega)
        have lb146 : ∀ x, some x = v139.ownBlock → some x = z97.ownBlock ∨ H89.bd ≤ x := fun x q => (hb143 x q).elim (fun e => hlw x e) (fun e => .inr (Nat.le_trans q128 e))
        have a147 : ∀ b', some b' = v139.ownBlock → b' = b24 → False := fun b' h1 h2 => (hb143 b' h1).elim (fun e => ha8 b' e h2) (fun e => by have := hb135.lt; omega)
        have a148 : ∀ b', some b' = v139.ownBlock → b' = b62 → False := fun b' h1 h2 => (hb143 b' h1).elim (fun e => ha9 b' e h2) (fun e => by have := hb136.lt; omega)
        have ch149 := But.thru2 ch127 hx141 (fun x e => (hlw x e).imp (fun q => .inr (.inr q)) id)
        have q150 := Nat.le_trans q128 hx141.bd
        have X151 := Ext.thru X129 hx141 (fun b hb => Nat.le_trans hqH (ho133.blk b hb).1.1)
        have X152 := Ext.thru X130 hx141 (fun b hb => Nat.le_trans (Nat.le_refl _) (ho133.blk b hb).1.1)
        have q154 := Nat.le_trans X131.bd hx141.bd
        have q156 := Nat.le_trans X138.bd hx141.bd
        have ho157 := ho132.but hx141 (fun b h1 _ h2 => hdw b h1.2 h2) (fun b hb => (ho133.blk b hb).2.2)
        have ho158 := ho126.but hx141 (fun b hb _ e => Nat.lt_irrefl _ (Nat.lt_of_lt_of_le (a122 b e) hb)) (fun b hb => (ho133.blk b hb).2.2)
        have hb159 := hb134.but hx141 (fun e => by have q : H9.bd ≤ _ := (ho133.blk _ e).1.1; omega)
        have hb160 := hb135.but hx141 (fun e => ha8 _ e rfl)
        have hb161 := hb136.but hx141 (fun e => ha9 _ e rfl)
        refine AL.val rfl (.inl rfl) (HV.as rfl) ?_
        refine AL.nil ?_
        refine nrm_blk (nrm_and ?_)
        exact ⟨(k0 + 1, v139), ⟨X151, X152, hb159, hb160, hb161, ch149, q150, by omega, lb146, d145, by have q := ho144; rw [List.replicate_succ', ← List.append_assoc]; exact q, ho157, trivial⟩, by first | omega | (dsimp only; omega), ⟨rfl, rfl, rfl, rfl, rfl, rfl, rfl, rfl, rfl, rfl, rfl, rfl, rfl, rfl, rfl, rfl, rfl, rfl, rfl, rfl, trivial⟩⟩
      · -- else
        refine AW.exit ?_
        refine ex_and (ex_and (ex_blk ?_))
        refine nrm_and ?_
        refine AW.reg ?_
        refine AL.val rfl (.inl rfl) (HV.fa fl31_2 rfl) ?_
        refine AL.val rfl (.inl rfl) (HV.fa fl29_2 rfl) ?_
        refine AL.val rfl (.inl rfl) (HV.ld rfl va23 (at_cell_add (j := 4) hb110 rfl)) ?_
        refine AL.val rfl (.inl rfl) (HV.mv rfl) ?_
        have X162 := Ext.refl H105
        have y163 := hb108.lt
        have y164 := hb109.lt
        have y165 := hb110.lt
        have o166 := X106.bd
        have o167 := X107.bd
        have o168 := X162.bd
        have a169 := hoO2.ltb
        have a170 := hoW.ltb
        have hc175 : vw.cells = #[vw] := by obtain ⟨A, c, e⟩ := hoW.rd.isSl; rw [e]; rfl
        refine AL.w rfl (.inl rfl) (WV.bsK (K := kV) (l := [vw]) (css := [[vw]]) sl23 rfl rfl (by simp [Instr.fill, hc175, kV, rng1]) rfl (segs_cons ⟨rfl, _, hoW.rd.isSl⟩ segs_nil)) ?_
        rintro v171 H172 ⟨hx173, ho174⟩
        have ch176 := But.trans ch111 (Ext.but hx173 _)
        have q177 := Nat.le_trans q112 hx173.bd
        have X178 := Ext.trans X106 hx173
        have X179 := Ext.trans X107 hx173
        have X180 := Ext.trans X162 hx173
        have ho181 := hoO2.ext hx173
        have ho182 := hoW.ext hx173
        have hb183 := hb108.ext hx173
        have hb184 := hb109.ext hx173
        have hb185 := hb110.ext hx173
        have X187 := Ext.refl H172
        refine AL.w rfl (.inl rfl) (WV.apk sl23 rfl rfl ho181 ho174.rd (by simp; omega) (by simp; omega) (fun b hb _ e => Nat.lt_irrefl _ (Nat.lt_of_lt_of_le (a169 b e) hb))) ?_
        rintro v188 H189 ⟨hx190, ho191, hb192⟩
        have ho193 := ho191.narrow (ok' := fun b => H9.bd ≤ b ∧ some b = v188.ownBlock) kV_flat (fun b q => ⟨(hb192 b q).elim (fun e => (ho181.blk b e).1.1) (fun e => Nat.le_trans X179.bd e), q⟩)
        have d194 : ∀ b, some b = vw.ownBlock → some b = v188.ownBlock → False := fun b h1 h2 => (hb192 b h2).elim (fun e => (fun b h1 h2 => hdw b h2 h1) b h1 e) (fun e => by have := (ho182.blk b h1).2.1; omega)
        have a195 : ∀ b', some b' = v188.ownBlock → b' = b24 → False := fun b' h1 h2 => (hb192 b' h1).elim (fun e => hapO8 b' e h2) (fun e => by have := hb184.lt; omega)
        have a196 : ∀ b', some b' = v188.ownBlock → b' = b62 → False := fun b' h1 h2 => (hb192 b' h1).elim (fun e => hapO9 b' e h2) (fun e => by have := hb185.lt; omega)
        have ch197 := But.trans ch176 (But.mono hx190 (fun x e => .inr (.inl e)))
        have q198 := Nat.le_trans q177 hx190.bd
        have X199 := Ext.thru X178 hx190 (fun b hb => Nat.le_trans hqH (ho181.blk b hb).1.1)
        have X200 := Ext.thru X179 hx190 (fun b hb => Nat.le_trans (Nat.le_refl _) (ho181.blk b hb).1.1)
        have q202 := Nat.le_trans X180.bd hx190.bd
        have q204 := Nat.le_trans X187.bd hx190.bd
        have ho205 := ho182.but hx190 (fun b h1 _ h2 => hdw b h2 h1.2) (fun b hb => (ho181.blk b hb).2.2)
        have ho206 := ho174.but hx190 (fun b hb _ e => Nat.lt_irrefl _ (Nat.lt_of_lt_of_le (a169 b e) hb)) (fun b hb => (ho181.blk b hb).2.2)
        have hb207 := hb183.but hx190 (fun e => by have q : H9.bd ≤ _ := (ho181.blk _ e).1.1; omega)
        have hb208 := hb184.but hx190 (fun e => hapO8 _ e rfl)
        have hb209 := hb185.but hx190 (fun e => hapO9 _ e rfl)
        refine AL.val rfl (.inl rfl) (HV.fa fl31_2 rfl) ?_
        refine AL.val rfl (.inl rfl) (HV.fa fl29_2 rfl) ?_
        refine AL.w0 (.inl rfl) (WV.st rfl rfl va23 (sl_size ho193.rd.isSl) hb209 (Nat.le_of_ble_eq_true rfl) (sl_one ho193.rd.isSl)) ?_
        rintro _ H210 ⟨hx211, hb212⟩
        rw [sl_cells ho193.rd.isSl] at hb212
        have ch213 := But.trans ch197 (But.mono hx211 (fun x e => .inl e))
        have q214 := Nat.le_trans q198 hx211.bd
        have q215 := Nat.le_trans q202 hx211.bd
        have q216 := Nat.le_trans q204 hx211.bd
        have X217 := Ext.thru X199 hx211 (fun z_ hz_ => by rw [hz_]; exact (Nat.le_trans hqH hb99))
        have X218 := Ext.thru X200 hx211 (fun z_ hz_ => by rw [hz_]; exact hb99)
        have ho219 := ho193.but hx211 (fun b hb _ e => a196 b hb.2 e) (fun z_ hz_ => by rw [hz_]; exact hb209.w)
        have ho220 := ho205.but hx211 (fun b hb _ e => ha9 b hb.2 e) (fun z_ hz_ => by rw [hz_]; exact hb209.w)
        have ho221 := ho206.but hx211 (fun b hb _ e => by have hb' : H105.bd ≤ b := hb; have e' : b = b62 := e; omega) (fun z_ hz_ => by rw [hz_]; exact hb209.w)
        have hb222 := hb207.but hx211 ne93
        have hb223 := hb208.but hx211 hne89
        have hb224 : At W H210 b62 ⟨31, [.int .i64 n, vo, .int .i64 p, .int .i64 (S.1 : Int), v188], 5⟩ := hb212
        refine AL.nil ?_
        refine nrm_blk (nrm_and ?_)
        refine AW.reg ?_
        refine AL.val rfl (.inl rfl) (HV.mv rfl) ?_
        refine AL.val rfl (.inl rfl) (HV.add rfl rfl (by omega)) ?_
        refine AL.val rfl (.inl rfl) (HV.as rfl) ?_
        refine AL.nil ?_
        refine nrm_and ?_
        exact ⟨(i + 1, v188, _), ⟨X217, X218, hb222, by omega, Mvr.step hV (getq hz99 rfl) hxi (Nat.le_trans X91.bd (Nat.le_refl _)) ch213 hb224 (ho219.okk (fun y q _ => q.2)) (by have q := ho220; rw [show padL S.1 (S.2.2.getD i []) = (S.2.2.getD i []) ++ List.replicate k0 0 by unfold padL; rw [show S.1 - (S.2.2.getD i []).length = k0 by omega]]; exact q.okk (fun y q _ => q.2)) (fun y q => (hb192 y q).imp id (fun e => Nat.le_trans q177 e)) hlw (fun b h1 h2 => d194 b h2 h1), trivial⟩, by first | omega | (dsimp only; omega), ⟨rfl, rfl, rfl, rfl, rfl, trivial⟩⟩
    · -- else
      refine AW.exit ?_
      refine ex_and (ex_and (ex_blk ?_))
      refine nrm_and ?_
      refine AW.rs ?_
      have hn1 : S.1 = gsK p d z := by rw [hS]; rfl
      have hn2 : S.2.1 = gsO p d z := by rw [hS]; rfl
      have hn3 : S.2.2.map (padL S.1) = gsL p d z := by rw [hS]; rfl
      obtain ⟨la, hfin⟩ := hV.fin (by omega)
      obtain ⟨hfo, hfd, _⟩ := hfin.resolve_right (by omega)
      refine AL.val rfl (.inl rfl) (HV.lda (cs := [.int .i64 n, vo, .int .i64 p, .int .i64 (S.1 : Int), vout]) rfl va31 (at_cells hV.at9 rfl)) ?_
      by_cases hJ : okSc n S.2.1 p (S.1 : Int) (S.2.2.map (padL S.1))
      · -- right
        refine AL.w rfl (.inl rfl) (WV.call fn61 rfl (l04Told_ok n p (S.1 : Int) hfo.rd (rd_ofO hfd.rd))) ?_
        rintro _ H225 ⟨e227, hx226⟩
        rw [if_pos hJ] at e227
        subst e227
        have X228 := Ext.trans X90 hx226
        have X229 := Ext.trans X91 hx226
        have X230 := Ext.trans X94 hx226
        have ho231 := hfo.ext hx226
        have ho232 := hfd.ext hx226
        have hb233 := hb92.ext hx226
        have hb234 := hV.at_.ext hx226
        have hb235 := hV.at9.ext hx226
        refine AL.val rfl (.inl rfl) (HV.ex rfl rfl) ?_
        refine AL.val rfl (.inl rfl) (HV.ex rfl rfl) ?_
        refine AL.w0 (.inl rfl) (WV.st rfl rfl va31 rfl hb233 (Nat.le_of_ble_eq_true rfl) (one_cons rfl (one_cons (sl_one1 ho231.rd.isSl) (one_cons rfl (one_cons rfl (one_cons (sl_one1 (rd_ofO ho232.rd).isSl) one_nil)))))) ?_
        rintro _ H236 ⟨hx237, hb238⟩
        have X239 := Ext.thru X228 hx237 (fun z_ hz_ => by rw [hz_]; exact o6)
        have q241 := Nat.le_trans X229.bd hx237.bd
        have q243 := Nat.le_trans X230.bd hx237.bd
        have ho244 := ho231.but hx237 (fun b hb _ e => by have hb' : (H9.bd ≤ b ∧ la b = 0) := hb; have e' : b = b1 := e; omega) (fun z_ hz_ => by rw [hz_]; exact hb233.w)
        have ho245 := ho232.but hx237 (fun b hb _ e => by have hb' : (H9.bd ≤ b ∧ la b = 1) := hb; have e' : b = b1 := e; omega) (fun z_ hz_ => by rw [hz_]; exact hb233.w)
        have hb246 := hb234.but hx237 (fun e => ne32 e.symm)
        have hb247 := hb235.but hx237 (fun e => ne93 e.symm)
        have hb248 : At W H236 b1 ⟨31, [.int .i64 n, vo, .int .i64 p, .int .i64 (S.1 : Int), vout], 5⟩ := hb238
        refine AL.val rfl (.inl rfl) (HV.as rfl) ?_
        refine AL.nx ?_
        refine AW.ret ?_
        refine post_ct rfl rfl rfl va31 hb248 ?_ (.inr rfl)
        have hC : (lgC n p d z) = 0 := lgC_0 hwd (by rw [← hn1, ← hn2, ← hn3]; exact hJ); exact ⟨⟨_, _, la, by rw [zI_yes hC, zI_yes hC, zI_yes hC, hC, ← hn1] <;> rfl, by rw [zL_yes hC, ← hn2]; exact ho244.okk (fun b hb _ => ⟨Nat.le_trans hqH hb.1, hb.2⟩), by rw [zL_yes hC, ← hn3]; exact ho245.okk (fun b hb _ => ⟨Nat.le_trans hqH hb.1, hb.2⟩)⟩, X239⟩
      · -- not
        refine AL.w rfl (.inl rfl) (WV.call fn61 rfl (l04Told_ok n p (S.1 : Int) hfo.rd (rd_ofO hfd.rd))) ?_
        rintro _ H249 ⟨e251, hx250⟩
        rw [if_neg hJ] at e251
        subst e251
        have X252 := Ext.trans X90 hx250
        have X253 := Ext.trans X91 hx250
        have X254 := Ext.trans X94 hx250
        have ho255 := hfo.ext hx250
        have ho256 := hfd.ext hx250
        have hb257 := hb92.ext hx250
        have hb258 := hV.at_.ext hx250
        have hb259 := hV.at9.ext hx250
        refine AL.val rfl (.inl rfl) (HV.ex rfl rfl) ?_
        refine AL.val rfl (.inl rfl) (HV.ex rfl rfl) ?_
        refine AL.w0 (.inl rfl) (WV.st rfl rfl va31 rfl hb257 (Nat.le_of_ble_eq_true rfl) (one_cons rfl (one_cons (sl_one1 ⟨none, 0, rfl⟩) (one_cons rfl (one_cons rfl (one_cons (sl_one1 ⟨none, 0, rfl⟩) one_nil)))))) ?_
        rintro _ H260 ⟨hx261, hb262⟩
        have X263 := Ext.thru X252 hx261 (fun z_ hz_ => by rw [hz_]; exact o6)
        have q265 := Nat.le_trans X253.bd hx261.bd
        have q267 := Nat.le_trans X254.bd hx261.bd
        have ho268 := ho255.but hx261 (fun b hb _ e => by have hb' : (H9.bd ≤ b ∧ la b = 0) := hb; have e' : b = b1 := e; omega) (fun z_ hz_ => by rw [hz_]; exact hb257.w)
        have ho269 := ho256.but hx261 (fun b hb _ e => by have hb' : (H9.bd ≤ b ∧ la b = 1) := hb; have e' : b = b1 := e; omega) (fun z_ hz_ => by rw [hz_]; exact hb257.w)
        have hb270 := hb258.but hx261 (fun e => ne32 e.symm)
        have hb271 := hb259.but hx261 (fun e => ne93 e.symm)
        have hb272 : At W H260 b1 ⟨31, [.int .i64 0, (.slice none 0 0), .int .i64 0, .int .i64 0, (.slice none 0 0)], 5⟩ := hb262
        refine AL.val rfl (.inl rfl) (HV.as rfl) ?_
        refine AL.nx ?_
        refine AW.ret ?_
        refine post_ct rfl rfl rfl va31 hb272 ?_ (.inr rfl)
        have hC : (lgC n p d z) = 3 := lgC_3 hwd (by rw [← hn1, ← hn2, ← hn3]; exact hJ); have hC0 : (lgC n p d z) ≠ 0 := (by omega); exact ⟨⟨.slice none 0 0, .slice none 0 0, fun _ => 0, by rw [zI_no hC0, zI_no hC0, zI_no hC0, hC] <;> rfl, by rw [zL_no hC0]; exact OwnK.nil _, by rw [zL_no hC0]; exact OwnD.nil _⟩, X263⟩

set_option maxRecDepth 100000 in
theorem implSG_ok {d : Nat} {okg : Nat → Prop} {z : GT d} {a l : Int} {v : Value} (hK : (kG d).rd W H okg z [.int .i64 a, .int .i64 l, v]) (p n : Int) (hW : W.heap.size ≤ H.bd) (hs : szG d z ≤ 2000000) : ACalls Try.prog W 39 #[.int .i64 p, .int .i64 n, .agg #[.int .i64 a, .int .i64 l, v]] H (fun r H' => (∃ (u v : Value) (la : Nat → Nat), r = .tuple #[.agg #[.int .i64 (zI (sgC n p d z) n), u, .int .i64 (zI (sgC n p d z) p), .int .i64 (zI (sgC n p d z) (gsK p d z : Int)), v], .int .i64 (sgC n p d z)] ∧ OwnK kI 2 W H' (fun b => H.bd ≤ b ∧ la b = 0) u (zL (sgC n p d z) (gsO p d z)) ∧ OwnD (kO 2 kI) 22 W H' (fun b => H.bd ≤ b ∧ la b = 1) v (zL (sgC n p d z) (gsL p d z))) ∧ Ext H H') := by
  refine ACalls.of (args := [.int .i64 p, .int .i64 n, .agg #[.int .i64 a, .int .i64 l, v]]) Try.func39 rfl rfl ?_
  have X0 := Ext.refl H
  obtain ⟨_, isl0⟩ := gk_isl hK
  refine AW.rs ?_
  refine AL.w rfl (.inl rfl) (WV.bx rfl rfl) ?_
  rintro _ H2 ⟨b1, rfl, hx3, hn4, hb5⟩
  have o6 := Nat.le_trans X0.bd hn4
  have X7 := Ext.trans X0 hx3
  have X8 := Ext.refl H2
  refine AL.w rfl (.inl rfl) (WV.al ze31 rfl) ?_
  rintro _ H10 ⟨b9, rfl, hx11, hn12, hb13⟩
  have o14 := Nat.le_trans X7.bd hn12
  have o15 := Nat.le_trans X8.bd hn12
  have ne16 : b1 ≠ b9 := by have := hb5.lt; omega
  have X17 := Ext.trans X7 hx11
  have X18 := Ext.trans X8 hx11
  have hb19 := hb5.ext hx11
  have X20 := Ext.refl H10
  refine AL.val rfl (.inl rfl) (HV.as rfl) ?_
  refine AL.nx ?_
  refine AW.seq ?_
  refine AW.block ?_
  refine AW.rs ?_
  refine AL.val rfl (.inl rfl) (HV.mv rfl) ?_
  refine AL.w rfl (.inl rfl) (WV.call fn103 rfl (isPrime_ok (W := W) p)) ?_
  rintro _ H21 ⟨rfl, hx22⟩
  have X23 := Ext.trans X17 hx22
  have X24 := Ext.trans X18 hx22
  have X25 := Ext.trans X20 hx22
  have hb26 := hb19.ext hx22
  have hb27 := hb13.ext hx22
  refine AL.val rfl (.inl rfl) (HV.not rfl) ?_
  refine AL.val rfl (.inl rfl) (HV.mv rfl) ?_
  by_cases c28 : primeI p
  · -- false
    have c28_ : (!decide (primeI p)) = false := by rw [decide_eq_true c28]; rfl
    rw [c28_]
    refine AL.val rfl (.inr ⟨_, _, _, rfl, rfl, rfl⟩) (HV.mv rfl) ?_
    refine AL.w rfl (.inr ⟨_, _, _, rfl, rfl, rfl⟩) (WV.call fn104 rfl (within_ok (W := W) n 1 7)) ?_
    rintro _ H29 ⟨rfl, hx30⟩
    have X31 := Ext.trans X23 hx30
    have X32 := Ext.trans X24 hx30
    have X33 := Ext.trans X25 hx30
    have hb34 := hb26.ext hx30
    have hb35 := hb27.ext hx30
    refine AL.val rfl (.inr ⟨_, _, _, rfl, rfl, rfl⟩) (HV.not rfl) ?_
    refine AL.val rfl (.inl rfl) (HV.pickF rfl rfl) ?_
    refine AL.val rfl (.inl rfl) (HV.as rfl) ?_
    refine AL.nx ?_
    refine AW.ifn rfl (fun c36 => ?_) (fun c36 => ?_)
    · -- then
      refine AW.rs ?_
      refine AL.val rfl (.inl rfl) (HV.bd rfl (bd31_ )) ?_
      refine AL.w0 (.inl rfl) (WV.st rfl rfl va31 rfl hb35 (Nat.le_of_ble_eq_true rfl) (one_cons rfl (one_cons (sl_one1 ⟨none, 0, rfl⟩) (one_cons rfl (one_cons rfl (one_cons (sl_one1 ⟨none, 0, rfl⟩) one_nil)))))) ?_
      rintro _ H37 ⟨hx38, hb39⟩
      have X40 := Ext.thru X31 hx38 (fun z_ hz_ => by rw [hz_]; exact o14)
      have X41 := Ext.thru X32 hx38 (fun z_ hz_ => by rw [hz_]; exact o15)
      have q43 := Nat.le_trans X33.bd hx38.bd
      have hb44 := hb34.but hx38 ne16
      have hb45 : At W H37 b9 ⟨31, [.int .i64 0, (.slice none 0 0), .int .i64 0, .int .i64 0, (.slice none 0 0)], 5⟩ := hb39
      refine AL.val rfl (.inl rfl) (HV.as rfl) ?_
      refine AL.nx ?_
      refine AW.ret ?_
      refine ret_blk (ret_and ?_)
      refine post_ct rfl rfl rfl va31 hb45 ?_ (.inr rfl)
      have hC : (sgC n p d z) = 2 := sgC_2 (fun q => by have q1 := q.1; have q2 := q.2; first | omega | contradiction); have hC0 : (sgC n p d z) ≠ 0 := (by omega); exact ⟨⟨.slice none 0 0, .slice none 0 0, fun _ => 0, by rw [zI_no hC0, zI_no hC0, zI_no hC0, hC] <;> rfl, by rw [zL_no hC0]; exact OwnK.nil _, by rw [zL_no hC0]; exact OwnD.nil _⟩, X40⟩
    · -- else
      refine AW.rs ?_
      refine AL.val rfl (.inl rfl) (HV.mv rfl) ?_
      refine AL.val rfl (.inl rfl) (HV.lda (cs := [.int .i64 a, .int .i64 l, v]) rfl va61 (at_cells hb34 rfl)) ?_
      refine AL.w rfl (.inl rfl) (WV.call fn105 rfl (ValidGate_ok (Kd.ext (kG d) hK X31) n hs)) ?_
      rintro _ H46 ⟨rfl, hx47⟩
      have X48 := Ext.trans X31 hx47
      have X49 := Ext.trans X32 hx47
      have X50 := Ext.trans X33 hx47
      have hb51 := hb34.ext hx47
      have hb52 := hb35.ext hx47
      refine AL.val rfl (.inl rfl) (HV.not rfl) ?_
      refine AL.val rfl (.inl rfl) (HV.as rfl) ?_
      refine AL.nx ?_
      refine AW.ifn rfl (fun c53 => ?_) (fun c53 => ?_)
      · -- then
        refine AW.rs ?_
        refine AL.val rfl (.inl rfl) (HV.bd rfl (bd31_ )) ?_
        refine AL.w0 (.inl rfl) (WV.st rfl rfl va31 rfl hb52 (Nat.le_of_ble_eq_true rfl) (one_cons rfl (one_cons (sl_one1 ⟨none, 0, rfl⟩) (one_cons rfl (one_cons rfl (one_cons (sl_one1 ⟨none, 0, rfl⟩) one_nil)))))) ?_
        rintro _ H54 ⟨hx55, hb56⟩
        have X57 := Ext.thru X48 hx55 (fun z_ hz_ => by rw [hz_]; exact o14)
        have X58 := Ext.thru X49 hx55 (fun z_ hz_ => by rw [hz_]; exact o15)
        have q60 := Nat.le_trans X50.bd hx55.bd
        have hb61 := hb51.but hx55 ne16
        have hb62 : At W H54 b9 ⟨31, [.int .i64 0, (.slice none 0 0), .int .i64 0, .int .i64 0, (.slice none 0 0)], 5⟩ := hb56
        refine AL.val rfl (.inl rfl) (HV.as rfl) ?_
        refine AL.nx ?_
        refine AW.ret ?_
        refine ret_blk (ret_and ?_)
        refine post_ct rfl rfl rfl va31 hb62 ?_ (.inr rfl)
        have hC : (sgC n p d z) = 1 := sgC_1 ⟨by assumption, by assumption⟩ c53; have hC0 : (sgC n p d z) ≠ 0 := (by omega); exact ⟨⟨.slice none 0 0, .slice none 0 0, fun _ => 0, by rw [zI_no hC0, zI_no hC0, zI_no hC0, hC] <;> rfl, by rw [zL_no hC0]; exact OwnK.nil _, by rw [zL_no hC0]; exact OwnD.nil _⟩, X57⟩
      · -- else
        refine AW.rs ?_
        refine AL.val rfl (.inl rfl) (HV.lda (cs := [.int .i64 a, .int .i64 l, v]) rfl va61 (at_cells hb51 rfl)) ?_
        refine AL.val rfl (.inl rfl) (HV.mv rfl) ?_
        refine AL.w rfl (.inl rfl) (WV.call fn106 rfl (widest_all d (Kd.ext (kG d) hK X48) p)) ?_
        rintro _ H63 ⟨rfl, hx64⟩
        have X65 := Ext.trans X48 hx64
        have X66 := Ext.trans X49 hx64
        have X67 := Ext.trans X50 hx64
        have hb68 := hb51.ext hx64
        have hb69 := hb52.ext hx64
        refine AL.val rfl (.inl rfl) (HV.as rfl) ?_
        refine AL.nx ?_
        refine AW.ifd rfl (fun c70 => ?_) (fun c70 => ?_)
        · -- then
          refine AW.rs ?_
          refine AL.val rfl (.inl rfl) (HV.bd rfl (bd31_ )) ?_
          refine AL.w0 (.inl rfl) (WV.st rfl rfl va31 rfl hb69 (Nat.le_of_ble_eq_true rfl) (one_cons rfl (one_cons (sl_one1 ⟨none, 0, rfl⟩) (one_cons rfl (one_cons rfl (one_cons (sl_one1 ⟨none, 0, rfl⟩) one_nil)))))) ?_
          rintro _ H71 ⟨hx72, hb73⟩
          have X74 := Ext.thru X65 hx72 (fun z_ hz_ => by rw [hz_]; exact o14)
          have X75 := Ext.thru X66 hx72 (fun z_ hz_ => by rw [hz_]; exact o15)
          have q77 := Nat.le_trans X67.bd hx72.bd
          have hb78 := hb68.but hx72 ne16
          have hb79 : At W H71 b9 ⟨31, [.int .i64 0, (.slice none 0 0), .int .i64 0, .int .i64 0, (.slice none 0 0)], 5⟩ := hb73
          refine AL.val rfl (.inl rfl) (HV.as rfl) ?_
          refine AL.nx ?_
          refine AW.ret ?_
          refine ret_blk (ret_and ?_)
          refine post_ct rfl rfl rfl va31 hb79 ?_ (.inr rfl)
          have hC : (sgC n p d z) = 4 := (sgC_l ⟨by assumption, by assumption⟩ (by assumption)).trans (lgC_w c70); have hC0 : (sgC n p d z) ≠ 0 := (by omega); exact ⟨⟨.slice none 0 0, .slice none 0 0, fun _ => 0, by rw [zI_no hC0, zI_no hC0, zI_no hC0, hC] <;> rfl, by rw [zL_no hC0]; exact OwnK.nil _, by rw [zL_no hC0]; exact OwnD.nil _⟩, X74⟩
        · -- else
          refine AW.skip ?_
          refine nrm_blk (nrm_and ?_)
          refine AW.rs ?_
          have hpn : primeI p ∧ 1 ≤ n ∧ n ≤ 7 := ⟨by assumption, by assumption⟩
          have hv : vG n d z := by assumption
          have hp := hpn.1.1
          have hwd : ¬ wdG p d z := by assumption
          have hszz := hv.2.1
          refine AL.val rfl (.inl rfl) (HV.mv rfl) ?_
          refine AL.val rfl (.inl rfl) (HV.bd rfl (bd134_0_1 p 1)) ?_
          have X80 := Ext.refl H63
          have hqH : H.bd ≤ H63.bd := X65.bd
          have lk81 : b1 < H63.bd := hb68.lt
          have lk82 : b9 < H63.bd := hb69.lt
          refine AL.w rfl (.inl rfl) (WV.bx rfl rfl) ?_
          rintro _ H84 ⟨b83, rfl, hx85, hn86, hb87⟩
          have o88 := Nat.le_trans X65.bd hn86
          have o89 := Nat.le_trans X66.bd hn86
          have o90 := Nat.le_trans X67.bd hn86
          have o91 := Nat.le_trans X80.bd hn86
          have ne92 : b1 ≠ b83 := by have := hb68.lt; omega
          have ne93 : b9 ≠ b83 := by have := hb69.lt; omega
          have X94 := Ext.trans X65 hx85
          have X95 := Ext.trans X66 hx85
          have X96 := Ext.trans X67 hx85
          have X97 := Ext.trans X80 hx85
          have hb98 := hb68.ext hx85
          have hb99 := hb69.ext hx85
          have X100 := Ext.refl H84
          refine AL.val rfl (.inl rfl) (HV.as rfl) ?_
          refine AL.nx ?_
          refine AW.rs ?_
          refine AL.val rfl (.inl rfl) (HV.mv rfl) ?_
          refine AL.val rfl (.inl rfl) (HV.lda (cs := [.int .i64 a, .int .i64 l, v]) rfl va61 (at_cells hb98 rfl)) ?_
          have y101 := hb98.lt
          have y102 := hb99.lt
          have y103 := hb87.lt
          have o104 := X94.bd
          have o105 := X95.bd
          have o106 := X96.bd
          have o107 := X97.bd
          have o108 := X100.bd
          refine AL.w rfl (.inl rfl) (WV.bsK (K := kI) (l := ([1] : List Int)) (css := [[.int .i64 1]]) sl22 rfl rfl (by first | rfl | (simp [Instr.fill, Value.cells, kI, kB, kU, kU8, kS, Kd.sc]; done) | (simp [Instr.fill, Value.cells, kI, kB, kU, kU8, kS, Kd.sc, rng1, rng2, rng3, rng4, kP])) rfl (segs_cons rfl segs_nil)) ?_
          rintro v109 H110 ⟨hx111, ho112⟩
          have X113 := Ext.trans X94 hx111
          have X114 := Ext.trans X95 hx111
          have X115 := Ext.trans X96 hx111
          have X116 := Ext.trans X97 hx111
          have X117 := Ext.trans X100 hx111
          have hb118 := hb98.ext hx111
          have hb119 := hb99.ext hx111
          have hb120 := hb87.ext hx111
          have hMn : Mk W H110 134 22 b83 (fun y => y < H63.bd ∨ some y = v109.ownBlock) p (1, [], []) := Mk.new (c := 1) hb120 (fun q => by have q1 := o91; have q2 := hb120.lt; rcases q with q | q; (omega); (have q3 : H84.bd ≤ _ := (ho112.blk _ q).1; have q4 := (show b83 < H84.bd by omega); omega))
          refine AL.w rfl (.inl rfl) (WV.call fn107 rfl (add_all d (HB := H) (av := fun y => y < H63.bd) hW hK X113 hMn (ho112.narrow kI_flat (fun y e => e)) (fun y hy => Nat.lt_of_lt_of_le hy hqH) (fun y hy => Nat.lt_of_lt_of_le hy X116.bd) (fun y hy e => by have q1 : y < H63.bd := hy; have q2 : H84.bd ≤ y := (ho112.blk y e).1; have q3 := o107; omega) hv.2.2.2 hwd hp ⟨by decide, by decide⟩ ⟨by show 1 + 2 * _ ≤ 140; omega, by show 0 + _ ≤ 70; omega, by show 0 + _ ≤ 70; omega⟩)) ?_
          rintro _ H122 ⟨e_, hM123, hB124⟩
          have X125 := Ext.thru X113 hB124 (fun y hy => Nat.le_trans hqH (Nat.le_of_not_lt hy))
          have X126 := Ext.thru X116 hB124 (fun y hy => Nat.le_trans (Nat.le_refl _) (Nat.le_of_not_lt hy))
          have hb127 := hb118.but hB124 (fun e => e (by assumption))
          have hb128 := hb119.but hB124 (fun e => e (by assumption))
          have X129 := Ext.refl H122
          obtain ⟨S, hS⟩ : ∃ S, S = nodeG (kdI p) d z [1] (1, [], []) := ⟨_, rfl⟩
          have hinc := node_inc (kid := kdI p) (n := n) d z [1] (1, [], []) hv.2.2.2
          obtain ⟨hI1, hI2, hI3, hI4⟩ := hinc
          have hnr := node_rows (p := p) hv.2.2.2
          rw [← hS] at hM123 hI1 hI2 hI3 hI4 hnr
          replace hI2 : S.1 + 1 ≤ 1 + szG d z := hI2
          replace hI3 : S.2.1.length ≤ 0 + szG d z := hI3
          replace hI4 : S.2.2.length ≤ 0 + szG d z := hI4
          obtain ⟨vo0, vr0, hat0, ⟨no0, hio0⟩, ⟨nr0, hir0⟩, hnb0, _, _⟩ := hM123.box
          refine AL.nx ?_
          refine AW.seq ?_
          refine AW.draw' [0, 0, 2, 6, 14, 0, 0, 64, 192, 448, 992, 2047, 0, 8191] mixed (by rfl) ?_
          refine Dr.read 0 _ 40 _ rfl rfl rfl rfl rfl (RV.of (by intro _ _ h; cases h) (.inl rfl) (fun _ xd => HV.mv rfl)) ?_
          refine Dr.read 1 _ 41 _ rfl rfl rfl rfl rfl (RV.of (by intro _ _ h; cases h) (.inl rfl) (fun _ xd => HV.mv rfl)) ?_
          refine Dr.read 2 _ 42 _ rfl rfl rfl rfl rfl (RV.of (by intro _ _ h; cases h) (.inl rfl) (fun _ xd => HV.nc rfl)) ?_
          refine Dr.read 3 _ 43 _ rfl rfl rfl rfl rfl (RV.of (by intro _ _ h; cases h) (.inl rfl) (fun _ xd => HV.fa fl134_2 rfl)) ?_
          refine Dr.read 4 _ 44 _ rfl rfl rfl rfl rfl (RV.of (by intro _ _ h; cases h) (.inl rfl) (fun _ xd => HV.ld rfl va22 (rdc_ext xd (at_cell_add (j := 2) hat0 rfl)))) ?_
          refine Dr.read 5 _ 45 _ rfl rfl rfl rfl rfl (RV.of (by intro _ _ h; cases h) (.inl rfl) (fun _ xd => HV.mv rfl)) ?_
          refine Dr.read 6 _ 46 _ rfl rfl rfl rfl rfl (RV.of (by intro _ _ h; cases h) (.inl rfl) (fun _ xd => HV.mv rfl)) ?_
          refine Dr.read 7 _ 47 _ rfl rfl rfl rfl rfl (RV.of (by intro _ _ h; cases h) (.inl rfl) (fun _ xd => HV.nc rfl)) ?_
          refine Dr.read 8 _ 48 _ rfl rfl rfl rfl rfl (RV.of (by intro _ _ h; cases h) (.inl rfl) (fun _ xd => HV.fa fl134_1 rfl)) ?_
          refine Dr.read 9 _ 49 _ rfl rfl rfl rfl rfl (RV.of (by intro _ _ h; cases h) (.inl rfl) (fun _ xd => HV.ld rfl va2 (rdc_ext xd (at_cell_add (j := 1) hat0 rfl)))) ?_
          refine Dr.read 10 _ 50 _ rfl rfl rfl rfl rfl (RV.of (by intro _ _ h; cases h) (.inl rfl) (fun _ xd => HV.bd rfl (bd29_0_1_ p (S.1 : Int)))) ?_
          refine Dr.read 11 _ 51 _ rfl rfl rfl rfl rfl (RV.of (by intro _ _ h; cases h) (.inl rfl) (fun _ xd => HV.bd rfl (bd31_0_1_2 n p (S.1 : Int) hio0))) ?_
          refine Dr.eff 12 _ _ rfl (by intro d h; cases h; exact ⟨rfl, rfl⟩) rfl rfl rfl (EC.of (by intro _ _ h; cases h) (.inl rfl) (WV.al ze31 rfl)) (fun v H' h => .inl (h.choose_spec.2.1)) ?_
          rintro _ H131 ⟨b130, rfl, hx132, hn133, hb134⟩
          have o135 := Nat.le_trans X125.bd hn133
          have o136 := Nat.le_trans X126.bd hn133
          have o137 := Nat.le_trans X129.bd hn133
          have ne138 : b1 ≠ b130 := by have := hb127.lt; omega
          have ne139 : b9 ≠ b130 := by have := hb128.lt; omega
          have ne140 : b83 ≠ b130 := by have := hat0.lt; omega
          have X141 := Ext.trans X125 hx132
          have X142 := Ext.trans X126 hx132
          have X143 := Ext.trans X129 hx132
          have hb144 := hb127.ext hx132
          have hb145 := hb128.ext hx132
          have hb146 := hat0.ext hx132
          have X147 := Ext.refl H131
          refine Dr.eff 13 _ _ rfl (by intro d h; cases h) rfl rfl rfl (EC.of (by intro _ _ h; cases h) (.inl rfl) (WV.st rfl rfl va31 rfl hb134 (Nat.le_of_ble_eq_true rfl) (one_cons rfl (one_cons (sl_one1 (hio0.ext X143).isSl) (one_cons rfl (one_cons rfl (one_cons (sl_one1 ⟨none, 0, rfl⟩) one_nil))))))) (fun v H' h => .inr (.inl rfl)) ?_
          rintro _ H148 ⟨hx149, hb150⟩
          have X151 := Ext.thru X141 hx149 (fun z_ hz_ => by rw [hz_]; exact o135)
          have X152 := Ext.thru X142 hx149 (fun z_ hz_ => by rw [hz_]; exact o136)
          have X153 := Ext.thru X143 hx149 (fun z_ hz_ => by rw [hz_]; exact o137)
          have q155 := Nat.le_trans X147.bd hx149.bd
          have hb156 := hb144.but hx149 ne138
          have hb157 := hb145.but hx149 ne139
          have hb158 := hb146.but hx149 ne140
          have hb159 : At W H148 b130 ⟨31, [.int .i64 n, vo0, .int .i64 p, .int .i64 (S.1 : Int), (.slice none 0 0)], 5⟩ := hb150
          refine Dr.fin rfl ?_
          refine nrm_and ?_
          refine AW.seq ?_
          refine AW.rs ?_
          refine AL.val rfl (.inl rfl) (HV.mv rfl) ?_
          refine AL.val rfl (.inl rfl) (HV.nc rfl) ?_
          refine AL.val rfl (.inl rfl) (HV.fa fl134_3 rfl) ?_
          refine AL.val rfl (.inl rfl) (HV.ld rfl va23 (at_cell_add (j := 3) hb158 rfl)) ?_
          refine AL.val rfl (.inl rfl) (HV.len Try.underlying23 rfl hir0) ?_
          obtain ⟨lab0, vo, vr, vs, hV0⟩ := Mvr.start (T9 := 31) (n := n) (B := H63.bd) hM123 (fun y hy => hy) X153 o137 (X126.bd) (fun vo vr q => by rw [(At.two q hat0).1]; exact hb159)
          obtain ⟨ev1, ev2⟩ := At.two hV0.at_ (hat0.ext X153)
          subst ev1
          subst ev2
          have hnr0 : nr0 = S.2.2.length := (IsSl.uniq hir0 hV0.raw.isSl).trans hV0.len
          refine AL.val rfl (.inl rfl) (HV.mv rfl) ?_
          refine AL.nx ?_
          refine AW.block ?_
          refine AW.loop (σ := Nat × Value × List Value) (fun ⟨i, vout, ws⟩ => [(6, .pointer (some ⟨b9, 0, none⟩)), (7, .int .i64 0), (8, .pointer (some ⟨b83, 0, none⟩)), (9, .pointer (some ⟨b130, 0, none⟩)), (55, vr), (56, .int .i64 (nr0 : Int)), (57, .int .i64 (i : Int))]) (fun ⟨i, vout, ws⟩ H' => Ext H H' ∧ Ext H63 H' ∧ At W H' b1 ⟨61, [.int .i64 a, .int .i64 l, v], 3⟩ ∧ At W H' b9 ⟨31, [.int .i64 0, (.slice none 0 0), .int .i64 0, .int .i64 0, (.slice none 0 0)], 5⟩ ∧ i ≤ S.2.2.length ∧ (∃ lab, Mvr W H' 134 22 31 b83 b130 H63.bd lab p n S vo vr vs vout ws i) ∧ True) (fun ⟨i, vout, ws⟩ => S.2.2.length - i) (0, (.slice none 0 0), []) ⟨X151, X152, hb156, hb157, Nat.zero_le _, ⟨lab0, hV0⟩, trivial⟩ ⟨rfl, rfl, rfl, rfl, rfl, rfl, rfl, trivial⟩ ?_
          rintro ⟨i, vout, ws⟩ H160 ⟨X161, X162, hb163, hb164, hi, hMv, _⟩
          have X167 := Ext.refl H160
          obtain ⟨lab, hV⟩ := hMv
          have hoO := hV.out.narrow (ok' := fun y => H63.bd ≤ y ∧ some y = vout.ownBlock) kV_flat (fun y q => ⟨(hV.out.blk y q).1.1, q⟩)
          have hne89 : b83 ≠ b130 := fun e => by have q1 := hV.lb; have q2 := hV.l9; rw [e] at q1; omega
          have hbm9 := hV.bB
          have hb99 := hV.b9B
          have hmw := hV.lw
          have hml := hV.len
          have hapO8 : ∀ y, some y = vout.ownBlock → y = b83 → False := fun y h1 h2 => by have q1 := (hV.out.blk y h1).1.2; have q2 := hV.lb; have q3 := hV.l9; rw [h2] at q1; omega
          have hapO9 : ∀ y, some y = vout.ownBlock → y = b130 → False := fun y h1 h2 => by have q1 := (hV.out.blk y h1).1.2; have q2 := hV.lb; have q3 := hV.l9; rw [h2] at q1; omega
          have ne165 : b1 ≠ b130 := by omega
          have ne166 : b9 ≠ b130 := by omega
          refine AW.rs ?_
          refine AL.val rfl (.inl rfl) (HV.lti rfl rfl) ?_
          refine AL.nx ?_
          refine AW.seq ?_
          refine AW.ifd rfl (fun c168 => ?_) (fun c168 => ?_)
          · -- then
            refine AW.skip ?_
            refine nrm_and ?_
            refine AW.seq ?_
            refine AW.block ?_
            refine AW.rs ?_
            obtain ⟨p169, z170, cs171, hz172, hK173, hC174, hP175⟩ := RdK.ix (q := (i : Int)) (hV.raw.rd) sl23 (by omega) (by omega)
            obtain ⟨rfl, n177, isl176⟩ : cs171 = [z170] ∧ ∃ n, IsSl z170 n := hK173
            refine AL.val rfl (.inl rfl) (hP175 rfl rfl) ?_
            refine AL.val rfl (.inl rfl) (HV.ld rfl va22 (cells_first hC174 rfl)) ?_
            have hil := (List.getElem?_eq_some_iff.1 (getq hz172 rfl)).1
            have hxi : S.2.2[i]? = some (S.2.2.getD i []) := by rw [List.getD_eq_getElem?_getD, List.getElem?_eq_getElem (by omega)]; rfl
            have hcu := hV.rest i z170 (S.2.2.getD i []) (Nat.le_refl _) (getq hz172 rfl) hxi
            have hRl : (S.2.2.getD i []).length ≤ S.1 := hnr.2.2.2.2 _ (List.mem_of_getElem? hxi)
            have hoC := hcu.narrow (ok' := fun y => H63.bd ≤ y ∧ some y = z170.ownBlock) kI_flat (fun y q => ⟨(hcu.blk y q).1.1, q⟩)
            have hdOC : ∀ y, some y = vout.ownBlock → some y = z170.ownBlock → False := fun y h1 h2 => by have q1 := (hV.out.blk y h1).1.2; have q2 := (hcu.blk y h2).1.2; omega
            have hapC8 : ∀ y, some y = z170.ownBlock → y = b83 → False := fun y h1 h2 => by have q1 := (hcu.blk y h1).1.2; have q2 := hV.lb; have q3 := hV.l9; rw [h2] at q1; omega
            have hapC9 : ∀ y, some y = z170.ownBlock → y = b130 → False := fun y h1 h2 => by have q1 := (hcu.blk y h1).1.2; have q2 := hV.lb; have q3 := hV.l9; rw [h2] at q1; omega
            have hchn := But.refl (fun y => y = b130 ∨ some y = vout.ownBlock ∨ some y = z170.ownBlock) H160
            have hlbn : ∀ y, some y = z170.ownBlock → some y = z170.ownBlock ∨ H160.bd ≤ y := fun y q => .inl q
            refine AL.val rfl (.inl rfl) (HV.as rfl) ?_
            refine AL.nx ?_
            refine AW.draw' [0, 1, 3, 0, 0, 16, 48, 112, 0, 256, 1008, 2040, 4088, 8191, 16383, 32767, 65535] mixed (by rfl) ?_
            refine Dr.read 0 _ 61 _ rfl rfl rfl rfl rfl (RV.of (by intro _ _ h; cases h) (.inl rfl) (fun _ xd => HV.fa fl31_2 rfl)) ?_
            refine Dr.read 1 _ 62 _ rfl rfl rfl rfl rfl (RV.of (by intro _ _ h; cases h) (.inl rfl) (fun _ xd => HV.fa fl29_2 rfl)) ?_
            refine Dr.read 2 _ 63 _ rfl rfl rfl rfl rfl (RV.of (by intro _ _ h; cases h) (.inl rfl) (fun _ xd => HV.ld rfl va23 (rdc_ext xd (at_cell_add (j := 4) hV.at9 rfl)))) ?_
            refine Dr.read 3 _ 64 _ rfl rfl rfl rfl rfl (RV.of (by intro _ _ h; cases h) (.inl rfl) (fun _ xd => HV.mv rfl)) ?_
            refine Dr.read 4 _ 65 _ rfl rfl rfl rfl rfl (RV.of (by intro _ _ h; cases h) (.inl rfl) (fun _ xd => HV.mv rfl)) ?_
            refine Dr.read 5 _ 66 _ rfl rfl rfl rfl rfl (RV.of (by intro _ _ h; cases h) (.inl rfl) (fun _ xd => HV.nc rfl)) ?_
            refine Dr.read 6 _ 67 _ rfl rfl rfl rfl rfl (RV.of (by intro _ _ h; cases h) (.inl rfl) (fun _ xd => HV.fa fl134_1 rfl)) ?_
            refine Dr.read 7 _ 68 _ rfl rfl rfl rfl rfl (RV.of (by intro _ _ h; cases h) (.inl rfl) (fun _ xd => HV.ld rfl va2 (rdc_ext xd (at_cell_add (j := 1) hV.at_ rfl)))) ?_
            refine Dr.read 8 _ 69 _ rfl rfl rfl rfl rfl (RV.of (by intro _ _ h; cases h) (.inl rfl) (fun _ xd => HV.mv rfl)) ?_
            refine Dr.read 9 _ 70 _ rfl rfl rfl rfl rfl (RV.of (by intro _ _ h; cases h) (.inl rfl) (fun _ xd => HV.len Try.underlying22 rfl hoC.rd.isSl)) ?_
            refine Dr.read 10 _ 71 _ rfl rfl rfl rfl rfl (RV.of (by intro _ _ h; cases h) (.inl rfl) (fun _ xd => HV.sub rfl rfl (by omega))) ?_
            refine Dr.eff 11 _ _ rfl (by intro d h; cases h; exact ⟨rfl, rfl⟩) rfl rfl rfl (EC.of (by intro _ _ h; cases h) (.inl rfl) (WV.apzK sl22 Try.underlying2 rfl rfl hoC (by omega) (by omega))) ?_ ?_
            · -- kept
              rintro v178 H179 ⟨hx180, ho181, hb182⟩
              have ho183 := ho181.narrow (ok' := fun b => H63.bd ≤ b ∧ some b = v178.ownBlock) kI_flat (fun b q => ⟨(hb182 b q).elim (fun e => (hoC.blk b e).1.1) (fun e => Nat.le_trans X162.bd e), q⟩)
              have d184 : ∀ b, some b = vout.ownBlock → some b = v178.ownBlock → False := fun b h1 h2 => (hb182 b h2).elim (fun e => hdOC b h1 e) (fun e => by have := (hoO.blk b h1).2.1; omega)
              have lb185 : ∀ x, some x = v178.ownBlock → some x = z170.ownBlock ∨ H160.bd ≤ x := fun x q => (hb182 x q).elim (fun e => hlbn x e) (fun e => .inr (Nat.le_trans X167.bd e))
              have a186 : ∀ b', some b' = v178.ownBlock → b' = b83 → False := fun b' h1 h2 => (hb182 b' h1).elim (fun e => hapC8 b' e h2) (fun e => by have := hV.at_.lt; omega)
              have a187 : ∀ b', some b' = v178.ownBlock → b' = b130 → False := fun b' h1 h2 => (hb182 b' h1).elim (fun e => hapC9 b' e h2) (fun e => by have := hV.at9.lt; omega)
              have ch188 := But.thru2 hchn hx180 (fun x e => (hlbn x e).imp (fun q => .inr (.inr q)) id)
              have q189 := Nat.le_trans (Nat.le_refl _) hx180.bd
              have X190 := Ext.thru X161 hx180 (fun b hb => Nat.le_trans hqH (hoC.blk b hb).1.1)
              have X191 := Ext.thru X162 hx180 (fun b hb => Nat.le_trans (Nat.le_refl _) (hoC.blk b hb).1.1)
              have q193 := Nat.le_trans X167.bd hx180.bd
              have ho194 := hoO.but hx180 (fun b h1 _ h2 => hdOC b h1.2 h2) (fun b hb => (hoC.blk b hb).2.2)
              have hb195 := hb163.but hx180 (fun e => by have q : H63.bd ≤ _ := (hoC.blk _ e).1.1; omega)
              have hb196 := hb164.but hx180 (fun e => by have q : H63.bd ≤ _ := (hoC.blk _ e).1.1; omega)
              have hb197 := hV.at_.but hx180 (fun e => hapC8 _ e rfl)
              have hb198 := hV.at9.but hx180 (fun e => hapC9 _ e rfl)
              refine .inr (.inr ?_)
              exact (kept_cons (.inl rfl) (kept_cons (.inl rfl) (kept_cons (.inl rfl) (kept_cons (.inl rfl) (kept_cons (.inl rfl) (kept_cons (.inl rfl) (kept_cons (.inl rfl) (kept_cons (.inl rfl) (kept_cons (.inr ⟨_, _, _, rfl, rfl, rfl, (RV.of (by intro _ _ h; cases h) (.inl rfl) (fun _ xd => HV.ld rfl va23 (rdc_ext xd (at_cell_add (j := 4) hb198 rfl))))⟩) (kept_cons (.inr ⟨_, _, _, rfl, rfl, rfl, (RV.of (by intro _ _ h; cases h) (.inl rfl) (fun _ xd => HV.fa fl29_2 rfl))⟩) (kept_cons (.inr ⟨_, _, _, rfl, rfl, rfl, (RV.of (by intro _ _ h; cases h) (.inl rfl) (fun _ xd => HV.fa fl31_2 rfl))⟩) kept_nil)))))))))))
            rintro v178 H179 ⟨hx180, ho181, hb182⟩
            have ho183 := ho181.narrow (ok' := fun b => H63.bd ≤ b ∧ some b = v178.ownBlock) kI_flat (fun b q => ⟨(hb182 b q).elim (fun e => (hoC.blk b e).1.1) (fun e => Nat.le_trans X162.bd e), q⟩)
            have d184 : ∀ b, some b = vout.ownBlock → some b = v178.ownBlock → False := fun b h1 h2 => (hb182 b h2).elim (fun e => hdOC b h1 e) (fun e => by have := (hoO.blk b h1).2.1; omega)
            have lb185 : ∀ x, some x = v178.ownBlock → some x = z170.ownBlock ∨ H160.bd ≤ x := fun x q => (hb182 x q).elim (fun e => hlbn x e) (fun e => .inr (Nat.le_trans X167.bd e))
            have a186 : ∀ b', some b' = v178.ownBlock → b' = b83 → False := fun b' h1 h2 => (hb182 b' h1).elim (fun e => hapC8 b' e h2) (fun e => by have := hV.at_.lt; omega)
            have a187 : ∀ b', some b' = v178.ownBlock → b' = b130 → False := fun b' h1 h2 => (hb182 b' h1).elim (fun e => hapC9 b' e h2) (fun e => by have := hV.at9.lt; omega)
            have ch199 := But.thru2 hchn hx180 (fun x e => (hlbn x e).imp (fun q => .inr (.inr q)) id)
            have q200 := Nat.le_trans (Nat.le_refl _) hx180.bd
            have X201 := Ext.thru X161 hx180 (fun b hb => Nat.le_trans hqH (hoC.blk b hb).1.1)
            have X202 := Ext.thru X162 hx180 (fun b hb => Nat.le_trans (Nat.le_refl _) (hoC.blk b hb).1.1)
            have q204 := Nat.le_trans X167.bd hx180.bd
            have ho205 := hoO.but hx180 (fun b h1 _ h2 => hdOC b h1.2 h2) (fun b hb => (hoC.blk b hb).2.2)
            have hb206 := hb163.but hx180 (fun e => by have q : H63.bd ≤ _ := (hoC.blk _ e).1.1; omega)
            have hb207 := hb164.but hx180 (fun e => by have q : H63.bd ≤ _ := (hoC.blk _ e).1.1; omega)
            have hb208 := hV.at_.but hx180 (fun e => hapC8 _ e rfl)
            have hb209 := hV.at9.but hx180 (fun e => hapC9 _ e rfl)
            have X210 := Ext.refl H179
            have y211 := hb206.lt
            have y212 := hb207.lt
            have y213 := hb208.lt
            have y214 := hb209.lt
            have o215 := X201.bd
            have o216 := X202.bd
            have o217 := X210.bd
            have a218 := ho205.ltb
            have a219 := ho183.ltb
            have hc224 : v178.cells = #[v178] := by obtain ⟨A, c, e⟩ := ho183.rd.isSl; rw [e]; rfl
            refine Dr.eff 12 _ _ rfl (by intro d h; cases h; exact ⟨rfl, rfl⟩) rfl rfl rfl (EC.of (by intro _ _ h; cases h) (.inl rfl) (WV.bsK (K := kV) (l := [v178]) (css := [[v178]]) sl23 rfl rfl (by simp [Instr.fill, hc224, kV, rng1]) rfl (segs_cons ⟨rfl, _, ho183.rd.isSl⟩ segs_nil))) (fun v H' h => .inl (h.1)) ?_
            rintro v220 H221 ⟨hx222, ho223⟩
            have ch225 := But.trans ch199 (Ext.but hx222 _)
            have q226 := Nat.le_trans q204 hx222.bd
            have X227 := Ext.trans X201 hx222
            have X228 := Ext.trans X202 hx222
            have X229 := Ext.trans X210 hx222
            have ho230 := ho205.ext hx222
            have ho231 := ho183.ext hx222
            have hb232 := hb206.ext hx222
            have hb233 := hb207.ext hx222
            have hb234 := hb208.ext hx222
            have hb235 := hb209.ext hx222
            have X237 := Ext.refl H221
            refine Dr.eff 13 _ _ rfl (by intro d h; cases h; exact ⟨rfl, rfl⟩) rfl rfl rfl (EC.of (by intro _ _ h; cases h) (.inl rfl) (WV.apk sl23 rfl rfl ho230 ho223.rd (by simp; omega) (by simp; omega) (fun b hb _ e => Nat.lt_irrefl _ (Nat.lt_of_lt_of_le (a218 b e) hb)))) (fun v H' h => .inr (.inl rfl)) ?_
            rintro v238 H239 ⟨hx240, ho241, hb242⟩
            have ho243 := ho241.narrow (ok' := fun b => H63.bd ≤ b ∧ some b = v238.ownBlock) kV_flat (fun b q => ⟨(hb242 b q).elim (fun e => (ho230.blk b e).1.1) (fun e => Nat.le_trans X228.bd e), q⟩)
            have d244 : ∀ b, some b = v178.ownBlock → some b = v238.ownBlock → False := fun b h1 h2 => (hb242 b h2).elim (fun e => (fun b h1 h2 => d184 b h2 h1) b h1 e) (fun e => by have := (ho231.blk b h1).2.1; omega)
            have a245 : ∀ b', some b' = v238.ownBlock → b' = b83 → False := fun b' h1 h2 => (hb242 b' h1).elim (fun e => hapO8 b' e h2) (fun e => by have := hb234.lt; omega)
            have a246 : ∀ b', some b' = v238.ownBlock → b' = b130 → False := fun b' h1 h2 => (hb242 b' h1).elim (fun e => hapO9 b' e h2) (fun e => by have := hb235.lt; omega)
            have ch247 := But.trans ch225 (But.mono hx240 (fun x e => .inr (.inl e)))
            have q248 := Nat.le_trans q226 hx240.bd
            have X249 := Ext.thru X227 hx240 (fun b hb => Nat.le_trans hqH (ho230.blk b hb).1.1)
            have X250 := Ext.thru X228 hx240 (fun b hb => Nat.le_trans (Nat.le_refl _) (ho230.blk b hb).1.1)
            have q252 := Nat.le_trans X229.bd hx240.bd
            have q254 := Nat.le_trans X237.bd hx240.bd
            have ho255 := ho231.but hx240 (fun b h1 _ h2 => d184 b h2 h1.2) (fun b hb => (ho230.blk b hb).2.2)
            have ho256 := ho223.but hx240 (fun b hb _ e => Nat.lt_irrefl _ (Nat.lt_of_lt_of_le (a218 b e) hb)) (fun b hb => (ho230.blk b hb).2.2)
            have hb257 := hb232.but hx240 (fun e => by have q : H63.bd ≤ _ := (ho230.blk _ e).1.1; omega)
            have hb258 := hb233.but hx240 (fun e => by have q : H63.bd ≤ _ := (ho230.blk _ e).1.1; omega)
            have hb259 := hb234.but hx240 (fun e => hapO8 _ e rfl)
            have hb260 := hb235.but hx240 (fun e => hapO9 _ e rfl)
            refine Dr.read 14 _ 75 _ rfl rfl rfl rfl rfl (RV.of (by intro _ _ h; cases h) (.inl rfl) (fun _ xd => HV.fa fl31_2 rfl)) ?_
            refine Dr.read 15 _ 76 _ rfl rfl rfl rfl rfl (RV.of (by intro _ _ h; cases h) (.inl rfl) (fun _ xd => HV.fa fl29_2 rfl)) ?_
            refine Dr.eff 16 _ _ rfl (by intro d h; cases h) rfl rfl rfl (EC.of (by intro _ _ h; cases h) (.inl rfl) (WV.st rfl rfl va23 (sl_size ho243.rd.isSl) hb260 (Nat.le_of_ble_eq_true rfl) (sl_one ho243.rd.isSl))) (fun v H' h => .inr (.inl rfl)) ?_
            rintro _ H261 ⟨hx262, hb263⟩
            rw [sl_cells ho243.rd.isSl] at hb263
            have ch264 := But.trans ch247 (But.mono hx262 (fun x e => .inl e))
            have q265 := Nat.le_trans q248 hx262.bd
            have q266 := Nat.le_trans q252 hx262.bd
            have q267 := Nat.le_trans q254 hx262.bd
            have X268 := Ext.thru X249 hx262 (fun z_ hz_ => by rw [hz_]; exact (Nat.le_trans hqH hb99))
            have X269 := Ext.thru X250 hx262 (fun z_ hz_ => by rw [hz_]; exact hb99)
            have ho270 := ho243.but hx262 (fun b hb _ e => a246 b hb.2 e) (fun z_ hz_ => by rw [hz_]; exact hb260.w)
            have ho271 := ho255.but hx262 (fun b hb _ e => a187 b hb.2 e) (fun z_ hz_ => by rw [hz_]; exact hb260.w)
            have ho272 := ho256.but hx262 (fun b hb _ e => by have hb' : H179.bd ≤ b := hb; have e' : b = b130 := e; omega) (fun z_ hz_ => by rw [hz_]; exact hb260.w)
            have hb273 := hb257.but hx262 ne165
            have hb274 := hb258.but hx262 ne166
            have hb275 := hb259.but hx262 hne89
            have hb276 : At W H261 b130 ⟨31, [.int .i64 n, vo, .int .i64 p, .int .i64 (S.1 : Int), v238], 5⟩ := hb263
            refine Dr.fin rfl ?_
            refine nrm_blk (nrm_and ?_)
            refine AW.reg ?_
            refine AL.val rfl (.inl rfl) (HV.add rfl rfl (by omega)) ?_
            refine AL.val rfl (.inl rfl) (HV.mv rfl) ?_
            refine AL.nil ?_
            refine nrm_and ?_
            exact ⟨(i + 1, v238, _), ⟨X268, X269, hb273, hb274, by omega, Mvr.step hV (getq hz172 rfl) hxi (Nat.le_trans X162.bd (Nat.le_refl _)) ch264 hb276 (ho270.okk (fun y q _ => q.2)) (by have q := ho271; rw [show ((S.1 : Int) - ((S.2.2.getD i []).length : Int)).toNat = S.1 - (S.2.2.getD i []).length by omega] at q; exact q.okk (fun y q _ => q.2)) (fun y q => (hb242 y q).imp id (fun e => Nat.le_trans q226 e)) lb185 (fun b h1 h2 => d244 b h2 h1), trivial⟩, by first | omega | (dsimp only; omega), ⟨rfl, rfl, rfl, rfl, rfl, rfl, rfl, trivial⟩⟩
          · -- else
            refine AW.exit ?_
            refine ex_and (ex_and (ex_blk ?_))
            refine nrm_and ?_
            refine AW.rs ?_
            have hgI := gs_I (p := p) hv.2.2.2
            rw [← hS] at hgI
            obtain ⟨hn1, hn2, hn3⟩ := hgI
            obtain ⟨la, hfin⟩ := hV.fin (by omega)
            obtain ⟨hfo, hfd, _⟩ := hfin.resolve_right (by omega)
            refine AL.val rfl (.inl rfl) (HV.lda (cs := [.int .i64 n, vo, .int .i64 p, .int .i64 (S.1 : Int), vout]) rfl va31 (at_cells hV.at9 rfl)) ?_
            by_cases hJ : okSc n S.2.1 p (S.1 : Int) (S.2.2.map (padL S.1))
            · -- right
              refine AL.w rfl (.inl rfl) (WV.call fn108 rfl (schLim_ok n p (S.1 : Int) hfo.rd (rd_ofO hfd.rd))) ?_
              rintro _ H277 ⟨e279, hx278⟩
              rw [if_pos hJ] at e279
              subst e279
              have X280 := Ext.trans X161 hx278
              have X281 := Ext.trans X162 hx278
              have X282 := Ext.trans X167 hx278
              have ho283 := hfo.ext hx278
              have ho284 := hfd.ext hx278
              have hb285 := hb163.ext hx278
              have hb286 := hb164.ext hx278
              have hb287 := hV.at_.ext hx278
              have hb288 := hV.at9.ext hx278
              refine AL.val rfl (.inl rfl) (HV.ex rfl rfl) ?_
              refine AL.val rfl (.inl rfl) (HV.ex rfl rfl) ?_
              refine AL.w0 (.inl rfl) (WV.st rfl rfl va31 rfl hb286 (Nat.le_of_ble_eq_true rfl) (one_cons rfl (one_cons (sl_one1 ho283.rd.isSl) (one_cons rfl (one_cons rfl (one_cons (sl_one1 (rd_ofO ho284.rd).isSl) one_nil)))))) ?_
              rintro _ H289 ⟨hx290, hb291⟩
              have X292 := Ext.thru X280 hx290 (fun z_ hz_ => by rw [hz_]; exact o14)
              have q294 := Nat.le_trans X281.bd hx290.bd
              have q296 := Nat.le_trans X282.bd hx290.bd
              have ho297 := ho283.but hx290 (fun b hb _ e => by have hb' : (H63.bd ≤ b ∧ la b = 0) := hb; have e' : b = b9 := e; omega) (fun z_ hz_ => by rw [hz_]; exact hb286.w)
              have ho298 := ho284.but hx290 (fun b hb _ e => by have hb' : (H63.bd ≤ b ∧ la b = 1) := hb; have e' : b = b9 := e; omega) (fun z_ hz_ => by rw [hz_]; exact hb286.w)
              have hb299 := hb285.but hx290 ne16
              have hb300 := hb287.but hx290 (fun e => ne93 e.symm)
              have hb301 := hb288.but hx290 (fun e => ne166 e.symm)
              have hb302 : At W H289 b9 ⟨31, [.int .i64 n, vo, .int .i64 p, .int .i64 (S.1 : Int), vout], 5⟩ := hb291
              refine AL.val rfl (.inl rfl) (HV.as rfl) ?_
              refine AL.nx ?_
              refine AW.ret ?_
              refine post_ct rfl rfl rfl va31 hb302 ?_ (.inr rfl)
              have hC : (sgC n p d z) = 0 := (sgC_l hpn hv).trans (lgC_0 hwd (by rw [← hn1, ← hn2, ← hn3]; exact hJ)); exact ⟨⟨_, _, la, by rw [zI_yes hC, zI_yes hC, zI_yes hC, hC, ← hn1] <;> rfl, by rw [zL_yes hC, ← hn2]; exact ho297.okk (fun b hb _ => ⟨Nat.le_trans hqH hb.1, hb.2⟩), by rw [zL_yes hC, ← hn3]; exact ho298.okk (fun b hb _ => ⟨Nat.le_trans hqH hb.1, hb.2⟩)⟩, X292⟩
            · -- not
              refine AL.w rfl (.inl rfl) (WV.call fn108 rfl (schLim_ok n p (S.1 : Int) hfo.rd (rd_ofO hfd.rd))) ?_
              rintro _ H303 ⟨e305, hx304⟩
              rw [if_neg hJ] at e305
              subst e305
              have X306 := Ext.trans X161 hx304
              have X307 := Ext.trans X162 hx304
              have X308 := Ext.trans X167 hx304
              have ho309 := hfo.ext hx304
              have ho310 := hfd.ext hx304
              have hb311 := hb163.ext hx304
              have hb312 := hb164.ext hx304
              have hb313 := hV.at_.ext hx304
              have hb314 := hV.at9.ext hx304
              refine AL.val rfl (.inl rfl) (HV.ex rfl rfl) ?_
              refine AL.val rfl (.inl rfl) (HV.ex rfl rfl) ?_
              refine AL.w0 (.inl rfl) (WV.st rfl rfl va31 rfl hb312 (Nat.le_of_ble_eq_true rfl) (one_cons rfl (one_cons (sl_one1 ⟨none, 0, rfl⟩) (one_cons rfl (one_cons rfl (one_cons (sl_one1 ⟨none, 0, rfl⟩) one_nil)))))) ?_
              rintro _ H315 ⟨hx316, hb317⟩
              have X318 := Ext.thru X306 hx316 (fun z_ hz_ => by rw [hz_]; exact o14)
              have q320 := Nat.le_trans X307.bd hx316.bd
              have q322 := Nat.le_trans X308.bd hx316.bd
              have ho323 := ho309.but hx316 (fun b hb _ e => by have hb' : (H63.bd ≤ b ∧ la b = 0) := hb; have e' : b = b9 := e; omega) (fun z_ hz_ => by rw [hz_]; exact hb312.w)
              have ho324 := ho310.but hx316 (fun b hb _ e => by have hb' : (H63.bd ≤ b ∧ la b = 1) := hb; have e' : b = b9 := e; omega) (fun z_ hz_ => by rw [hz_]; exact hb312.w)
              have hb325 := hb311.but hx316 ne16
              have hb326 := hb313.but hx316 (fun e => ne93 e.symm)
              have hb327 := hb314.but hx316 (fun e => ne166 e.symm)
              have hb328 : At W H315 b9 ⟨31, [.int .i64 0, (.slice none 0 0), .int .i64 0, .int .i64 0, (.slice none 0 0)], 5⟩ := hb317
              refine AL.val rfl (.inl rfl) (HV.as rfl) ?_
              refine AL.nx ?_
              refine AW.ret ?_
              refine post_ct rfl rfl rfl va31 hb328 ?_ (.inr rfl)
              have hC : (sgC n p d z) = 3 := (sgC_l hpn hv).trans (lgC_3 hwd (by rw [← hn1, ← hn2, ← hn3]; exact hJ)); have hC0 : (sgC n p d z) ≠ 0 := (by omega); exact ⟨⟨.slice none 0 0, .slice none 0 0, fun _ => 0, by rw [zI_no hC0, zI_no hC0, zI_no hC0, hC] <;> rfl, by rw [zL_no hC0]; exact OwnK.nil _, by rw [zL_no hC0]; exact OwnD.nil _⟩, X318⟩
  · -- true
    have c28_ : (!decide (primeI p)) = true := by rw [decide_eq_false c28]; rfl
    rw [c28_]
    refine AL.off rfl rfl (by decide) rfl ?_
    refine AL.off rfl rfl (by decide) rfl ?_
    refine AL.off rfl rfl (by decide) rfl ?_
    refine AL.val rfl (.inl rfl) (HV.pickT rfl rfl) ?_
    refine AL.val rfl (.inl rfl) (HV.as rfl) ?_
    refine AL.nx ?_
    refine AW.cond rfl (fun _ => ?_) (fun h => by cases h)
    refine AW.rs ?_
    refine AL.val rfl (.inl rfl) (HV.bd rfl (bd31_ )) ?_
    refine AL.w0 (.inl rfl) (WV.st rfl rfl va31 rfl hb27 (Nat.le_of_ble_eq_true rfl) (one_cons rfl (one_cons (sl_one1 ⟨none, 0, rfl⟩) (one_cons rfl (one_cons rfl (one_cons (sl_one1 ⟨none, 0, rfl⟩) one_nil)))))) ?_
    rintro _ H330 ⟨hx331, hb332⟩
    have X333 := Ext.thru X23 hx331 (fun z_ hz_ => by rw [hz_]; exact o14)
    have X334 := Ext.thru X24 hx331 (fun z_ hz_ => by rw [hz_]; exact o15)
    have q336 := Nat.le_trans X25.bd hx331.bd
    have hb337 := hb26.but hx331 ne16
    have hb338 : At W H330 b9 ⟨31, [.int .i64 0, (.slice none 0 0), .int .i64 0, .int .i64 0, (.slice none 0 0)], 5⟩ := hb332
    refine AL.val rfl (.inl rfl) (HV.as rfl) ?_
    refine AL.nx ?_
    refine AW.ret ?_
    refine ret_blk (ret_and ?_)
    refine post_ct rfl rfl rfl va31 hb338 ?_ (.inr rfl)
    have hC : (sgC n p d z) = 2 := sgC_2 (fun q => by have q1 := q.1; have q2 := q.2; first | omega | contradiction); have hC0 : (sgC n p d z) ≠ 0 := (by omega); exact ⟨⟨.slice none 0 0, .slice none 0 0, fun _ => 0, by rw [zI_no hC0, zI_no hC0, zI_no hC0, hC] <;> rfl, by rw [zL_no hC0]; exact OwnK.nil _, by rw [zL_no hC0]; exact OwnD.nil _⟩, X333⟩
end Go.Proofs.Yticobjbjejpomaa.VC

