/- Walks. -/
import Derived.Test.YtfjihanfiliniaaVF2
import Derived.Test.YtfjihanfiliniaaVL
set_option linter.unusedVariables false
set_option linter.unusedSimpArgs false
namespace Go.Proofs.Ytfjihanfiliniaa.VC
open Go Go.RowKit
variable {W : World} {H : Hp}

set_option maxRecDepth 100000 in
theorem add_ok {B0 : Hp} {bb : Nat} {n : Int} {st : List (List Int × List Int)} {lab : Nat → Nat} {vl vc vw : Value} {lv cv : List Value} {g : List Int} (s : Int) (h : LV W H B0 82 22 bb n st lab vl vc lv cv) (hv : RdK kI W H (fun y => B0.bd ≤ y ∧ lab y = 3) vw g) (hB : B0.bd ≤ H.bd) (hs : SrtV st) (hl : st.length ≤ 100000) (hn : 0 ≤ n ∧ n ≤ 64) (hsn : 0 ≤ s ∧ s < n) (hcc : ∀ e ∈ st, e.2.length = n.toNat ∧ ∀ y ∈ e.2, 0 ≤ y ∧ y ≤ 100000) : ACalls Try.prog W 80 #[.pointer (some ⟨bb, 0, none⟩), vw, .int .i64 s] H (fun r H' => (∃ lab' vl' vc' lv' cv', LV W H' B0 82 22 bb n (addV n st g s) lab' vl' vc' lv' cv') ∧ But (fun x => B0.bd ≤ x) H H') := by
  refine ACalls.of (args := [.pointer (some ⟨bb, 0, none⟩), vw, .int .i64 s]) Try.func80 rfl rfl ?_
  have X0 := Ext.refl H
  have hm1 := hv.max
  have hmS : (st.map Prod.fst).length = st.length := List.length_map _
  refine AW.rs ?_
  refine AL.val rfl (.inl rfl) (HV.as rfl) ?_
  refine AL.nx ?_
  refine AW.rs ?_
  refine AL.val rfl (.inl rfl) (HV.mv rfl) ?_
  refine AL.val rfl (.inl rfl) (HV.nc rfl) ?_
  refine AL.val rfl (.inl rfl) (HV.fa fl82_1 rfl) ?_
  refine AL.val rfl (.inl rfl) (HV.ld rfl va45 (at_cell_add h.hb rfl)) ?_
  refine AL.val rfl (.inl rfl) (HV.len Try.underlying45 rfl h.rdL.isSl) ?_
  refine AL.val rfl (.inl rfl) (HV.as rfl) ?_
  refine AL.nx ?_
  refine AW.seq ?_
  refine AW.block ?_
  refine AW.loop (σ := Nat × Nat) (fun ⟨a, d⟩ => [(0, .pointer (some ⟨bb, 0, none⟩)), (1, vw), (2, .int .i64 s), (6, .int .i64 (a : Int)), (7, .int .i64 (d : Int))]) (fun ⟨a, d⟩ H' => Ext H H' ∧ At W H' bb ⟨82, [.int .i64 n, vl, vc], 3⟩ ∧ a ≤ d ∧ d ≤ st.length ∧ (∀ k, k < a → lexI (st.getD k ([], [])).1 g < 0) ∧ (∀ k, d ≤ k → k < st.length → ¬ lexI (st.getD k ([], [])).1 g < 0) ∧ True) (fun ⟨a, d⟩ => d - a) (0, (st.map Prod.fst).length) ⟨X0, h.hb, Nat.zero_le _, by omega, fun k hk => absurd hk (Nat.not_lt_zero _), fun k h1 h2 => by omega, trivial⟩ ⟨rfl, rfl, rfl, rfl, rfl, trivial⟩ ?_
  rintro ⟨a, d⟩ H2 ⟨X3, hb4, had, hdl, hlt, hge, _⟩
  refine AW.seq ?_
  refine AW.rs ?_
  refine AL.val rfl (.inl rfl) (HV.mv rfl) ?_
  refine AL.val rfl (.inl rfl) (HV.mv rfl) ?_
  refine AL.val rfl (.inl rfl) (HV.lti rfl rfl) ?_
  refine AL.nx ?_
  refine AW.ifd rfl (fun c5 => ?_) (fun c5 => ?_)
  · -- then
    refine AW.skip ?_
    refine nrm_and ?_
    refine AW.block ?_
    refine AW.rs ?_
    refine AL.val rfl (.inl rfl) (HV.mv rfl) ?_
    refine AL.val rfl (.inl rfl) (HV.mv rfl) ?_
    refine AL.val rfl (.inl rfl) (HV.add rfl rfl (by omega)) ?_
    refine AL.val rfl (.inl rfl) (HV.quo rfl rfl (by omega)) ?_
    refine AL.val rfl (.inl rfl) (HV.as rfl) ?_
    refine AL.nx ?_
    refine AW.rs ?_
    refine AL.val rfl (.inl rfl) (HV.mv rfl) ?_
    refine AL.val rfl (.inl rfl) (HV.nc rfl) ?_
    refine AL.val rfl (.inl rfl) (HV.fa fl82_1 rfl) ?_
    refine AL.val rfl (.inl rfl) (HV.ld rfl va45 (at_cell_add hb4 rfl)) ?_
    refine AL.val rfl (.inl rfl) (HV.mv rfl) ?_
    obtain ⟨p6, z7, cs8, hz9, hK10, hC11, hP12⟩ := RdK.ix (q := ((a : Int) + (d : Int)) / 2) h.rdL sl45 (by omega) (by omega)
    obtain ⟨v13, rfl, hr14⟩ := hK10
    have hm15 := hr14.max
    refine AL.val rfl (.inl rfl) (hP12 rfl rfl) ?_
    refine AL.val rfl (.inl rfl) (HV.ld rfl va22 (cells_first (hC11.ext X3) rfl)) ?_
    refine AL.val rfl (.inl rfl) (HV.mv rfl) ?_
    refine AL.w rfl (.inl rfl) (WV.call fn86 rfl (l06Less_ok (hr14.ext X3) (hv.ext X3))) ?_
    rintro _ H16 ⟨rfl, hx17⟩
    have X18 := Ext.trans X3 hx17
    have hb19 := hb4.ext hx17
    refine AL.nx ?_
    refine AW.ifd rfl (fun c20 => ?_) (fun c20 => ?_)
    · -- then
      refine AW.reg ?_
      refine AL.val rfl (.inl rfl) (HV.mv rfl) ?_
      refine AL.val rfl (.inl rfl) (HV.add rfl rfl (by omega)) ?_
      refine AL.val rfl (.inl rfl) (HV.as rfl) ?_
      refine AL.nil ?_
      refine nrm_blk (nrm_and ?_)
      exact ⟨((a + d) / 2 + 1, d), ⟨X18, hb19, by omega, by omega, fun k hk => (Nat.lt_or_ge k ((a + d) / 2)).elim (fun h2 => lexI_trans (srtV_lt hs h2 (by omega)) (show lexI (st.getD ((a + d) / 2) ([], [])).1 g < 0 from by rw [(fst_gd (st := st) (j := (a + d) / 2) hz9 rfl : (st.getD ((a + d) / 2) ([], [])).1 = z7)]; exact c20)) (fun h2 => by rw [show k = (a + d) / 2 by omega]; exact (show lexI (st.getD ((a + d) / 2) ([], [])).1 g < 0 from by rw [(fst_gd (st := st) (j := (a + d) / 2) hz9 rfl : (st.getD ((a + d) / 2) ([], [])).1 = z7)]; exact c20)), hge, trivial⟩, by first | omega | (dsimp only; omega), ⟨rfl, rfl, rfl, rfl, rfl, trivial⟩⟩
    · -- else
      refine AW.reg ?_
      refine AL.val rfl (.inl rfl) (HV.mv rfl) ?_
      refine AL.val rfl (.inl rfl) (HV.as rfl) ?_
      refine AL.nil ?_
      refine nrm_blk (nrm_and ?_)
      exact ⟨(a, (a + d) / 2), ⟨X18, hb19, by omega, by omega, hlt, fun k hk1 hk2 q => (Nat.eq_or_lt_of_le hk1).elim (fun e => by subst e; exact (show ¬ lexI (st.getD ((a + d) / 2) ([], [])).1 g < 0 from by rw [(fst_gd (st := st) (j := (a + d) / 2) hz9 rfl : (st.getD ((a + d) / 2) ([], [])).1 = z7)]; exact c20) q) (fun h2 => (show ¬ lexI (st.getD ((a + d) / 2) ([], [])).1 g < 0 from by rw [(fst_gd (st := st) (j := (a + d) / 2) hz9 rfl : (st.getD ((a + d) / 2) ([], [])).1 = z7)]; exact c20) (lexI_trans (srtV_lt hs h2 hk2) q)), trivial⟩, by first | omega | (dsimp only; omega), ⟨rfl, rfl, rfl, rfl, rfl, trivial⟩⟩
  · -- else
    refine AW.exit ?_
    refine ex_and (ex_and (ex_blk ?_))
    refine nrm_and ?_
    refine AW.seq ?_
    refine AW.rs ?_
    have hp : posV st g = a := posV_of (by omega) hlt (fun h => hge a (by omega) h)
    have hlvl := h.ll
    have hcvl := h.lc
    refine AL.val rfl (.inl rfl) (HV.mv rfl) ?_
    refine AL.val rfl (.inl rfl) (HV.mv rfl) ?_
    refine AL.val rfl (.inl rfl) (HV.nc rfl) ?_
    refine AL.val rfl (.inl rfl) (HV.fa fl82_1 rfl) ?_
    refine AL.val rfl (.inl rfl) (HV.ld rfl va45 (at_cell_add hb4 rfl)) ?_
    refine AL.val rfl (.inl rfl) (HV.len Try.underlying45 rfl h.rdL.isSl) ?_
    refine AL.val rfl (.inl rfl) (HV.eqi rfl rfl) ?_
    refine AL.val rfl (.inl rfl) (HV.mv rfl) ?_
    by_cases c21 : (a : Int) = ((st.map Prod.fst).length : Int)
    · -- true
      have c21_ : decide ((a : Int) = ((st.map Prod.fst).length : Int)) = true := decide_eq_true c21
      rw [c21_]
      refine AL.off rfl rfl (by decide) rfl ?_
      refine AL.off rfl rfl (by decide) rfl ?_
      refine AL.off rfl rfl (by decide) rfl ?_
      refine AL.off rfl rfl (by decide) rfl ?_
      refine AL.off rfl rfl (by decide) rfl ?_
      refine AL.off rfl rfl (by decide) rfl ?_
      refine AL.off rfl rfl (by decide) rfl ?_
      refine AL.off rfl rfl (by decide) rfl ?_
      refine AL.off rfl rfl (by decide) rfl ?_
      refine AL.off rfl rfl (by decide) rfl ?_
      refine AL.val rfl (.inl rfl) (HV.pickT rfl rfl) ?_
      refine AL.nx ?_
      refine AW.cond rfl (fun _ => ?_) (fun h => by cases h)
      refine AW.rs ?_
      have hoL23 := (h.hl.ext X3).narrow (ok' := fun x => B0.bd ≤ x ∧ some x = vl.ownBlock) kV_flat (fun x q => ⟨(h.hl.blk x q).1.1, q⟩)
      have hoC24 := (h.hc.ext X3).narrow (ok' := fun x => B0.bd ≤ x ∧ some x = vc.ownBlock) kV_flat (fun x q => ⟨(h.hc.blk x q).1.1, q⟩)
      have ch25 : But (fun x => x = bb ∨ some x = vl.ownBlock ∨ some x = vc.ownBlock) H H2 := Ext.but X3 _
      have qB26 := Nat.le_trans hB X3.bd
      have qH27 := X3.bd
      have d28 : ∀ x, some x = vl.ownBlock → some x = vc.ownBlock → False := fun x h1 h2 => by have q1 := (h.hl.blk x h1).1.2; have q2 := (h.hc.blk x h2).1.2; omega
      have d29 : ∀ x, some x = vc.ownBlock → some x = vl.ownBlock → False := fun x h1 h2 => d28 x h2 h1
      refine AL.val rfl (.inl rfl) (HV.mv rfl) ?_
      refine AL.val rfl (.inl rfl) (HV.mv rfl) ?_
      refine AL.val rfl (.inl rfl) (HV.nc rfl) ?_
      refine AL.val rfl (.inl rfl) (HV.fa fl82_1 rfl) ?_
      refine AL.val rfl (.inl rfl) (HV.ld rfl va45 (at_cell_add hb4 rfl)) ?_
      refine AL.val rfl (.inl rfl) (HV.mv rfl) ?_
      have X30 := Ext.refl H2
      have y31 := hb4.lt
      have o32 := X3.bd
      have o33 := X30.bd
      have a34 := hoL23.ltb
      have a35 := hoC24.ltb
      have hc40 : vw.cells = #[vw] := by obtain ⟨A, c, e⟩ := hv.isSl; rw [e]; rfl
      refine AL.w rfl (.inl rfl) (WV.bsK (K := kV) (l := [vw]) (css := [[vw]]) sl45 rfl rfl (by simp [Instr.fill, hc40, kV, rng1]) rfl (segs_cons ⟨rfl, _, hv.isSl⟩ segs_nil)) ?_
      rintro v36 H37 ⟨hx38, ho39⟩
      have ch41 := But.trans ch25 (Ext.but hx38 _)
      have q42 := Nat.le_trans qB26 hx38.bd
      have q43 := Nat.le_trans qH27 hx38.bd
      have X44 := Ext.trans X3 hx38
      have X45 := Ext.trans X30 hx38
      have ho46 := hoL23.ext hx38
      have ho47 := hoC24.ext hx38
      have hb48 := hb4.ext hx38
      refine AL.w rfl (.inl rfl) (WV.apk sl45 rfl rfl ho46 ho39.rd (by simp; omega) (by simp; omega) (fun b hb _ e => Nat.lt_irrefl _ (Nat.lt_of_lt_of_le (a34 b e) hb))) ?_
      rintro v50 H51 ⟨hx52, ho53, hb54⟩
      have ho55 := ho53.narrow (ok' := fun b => B0.bd ≤ b ∧ some b = v50.ownBlock) kV_flat (fun b q => ⟨(hb54 b q).elim (fun e => (ho46.blk b e).1.1) (fun e => Nat.le_trans q42 e), q⟩)
      have d56 : ∀ b, some b = vc.ownBlock → some b = v50.ownBlock → False := fun b h1 h2 => (hb54 b h2).elim (fun e => d29 b h1 e) (fun e => by have := (ho47.blk b h1).2.1; omega)
      have d57 : ∀ b, some b = v50.ownBlock → some b = vc.ownBlock → False := fun b h1 h2 => d56 b h2 h1
      have lb58 : ∀ x, some x = v50.ownBlock → some x = vl.ownBlock ∨ H.bd ≤ x := fun x q => (hb54 x q).elim (fun e => (fun x (q : some x = vl.ownBlock) => (.inl q : some x = vl.ownBlock ∨ H.bd ≤ x)) x e) (fun e => .inr (Nat.le_trans q43 e))
      have an59 : ∀ b', some b' = v50.ownBlock → b' = bb → False := fun b' h1 h2 => (hb54 b' h1).elim (fun e => (fun (b' : Nat) (h1 : some b' = vl.ownBlock) (h2 : b' = bb) => by have q := (h.hl.blk b' h1).1.2; have q2 := h.lb; subst h2; omega) b' e h2) (fun e => by have := hb48.lt; subst h2; omega)
      have ch60 := But.thru2 ch41 hx52 (fun x e => ((fun x (q : some x = vl.ownBlock) => (.inl q : some x = vl.ownBlock ∨ H.bd ≤ x)) x e).imp (fun q => .inr (.inl q)) id)
      have q61 := Nat.le_trans q42 hx52.bd
      have q62 := Nat.le_trans q43 hx52.bd
      have q64 := Nat.le_trans X44.bd hx52.bd
      have q66 := Nat.le_trans X45.bd hx52.bd
      have ho67 := ho47.but hx52 (fun b h1 _ h2 => d29 b h1.2 h2) (fun b hb => (ho46.blk b hb).2.2)
      have hb68 := hb48.but hx52 (fun e => (fun (b' : Nat) (h1 : some b' = vl.ownBlock) (h2 : b' = bb) => by have q := (h.hl.blk b' h1).1.2; have q2 := h.lb; subst h2; omega) _ e rfl)
      refine AL.val rfl (.inl rfl) (HV.nc rfl) ?_
      refine AL.val rfl (.inl rfl) (HV.fa fl82_1 rfl) ?_
      refine AL.w0 (.inl rfl) (WV.st rfl rfl va45 (sl_size ho55.rd.isSl) hb68 (Nat.le_of_ble_eq_true rfl) (sl_one ho55.rd.isSl)) ?_
      rintro _ H69 ⟨hx70, hb71⟩
      rw [sl_cells ho55.rd.isSl] at hb71
      have ch72 := But.trans ch60 (But.mono hx70 (fun x e => .inl e))
      have q73 := Nat.le_trans q61 hx70.bd
      have q74 := Nat.le_trans q64 hx70.bd
      have q75 := Nat.le_trans q66 hx70.bd
      have ho76 := ho55.but hx70 (fun b hb _ e => an59 b hb.2 e) (fun z_ hz_ => by rw [hz_]; exact hb68.w)
      have ho77 := ho67.but hx70 (fun b hb _ e => (fun (b' : Nat) (h1 : some b' = vc.ownBlock) (h2 : b' = bb) => by have q := (h.hc.blk b' h1).1.2; have q2 := h.lb; subst h2; omega) b hb.2 e) (fun z_ hz_ => by rw [hz_]; exact hb68.w)
      have hb78 : At W H69 bb ⟨82, [.int .i64 n, v50, vc], 3⟩ := hb71
      refine AL.nx ?_
      refine AW.rs ?_
      refine AL.val rfl (.inl rfl) (HV.mv rfl) ?_
      refine AL.val rfl (.inl rfl) (HV.mv rfl) ?_
      refine AL.val rfl (.inl rfl) (HV.nc rfl) ?_
      refine AL.val rfl (.inl rfl) (HV.fa fl82_2 rfl) ?_
      refine AL.val rfl (.inl rfl) (HV.ld rfl va45 (at_cell_add hb78 rfl)) ?_
      have X79 := Ext.refl H69
      have y80 := hb78.lt
      have o81 := X79.bd
      have a82 := ho76.ltb
      have a83 := ho77.ltb
      refine AL.w rfl (.inl rfl) (WV.bsK (K := kI) (l := ([] : List Int)) (css := []) sl22 rfl rfl (by first | rfl | (simp [Instr.fill, Value.cells, kI, kB, kU, kS, Kd.sc]; done) | (simp [Instr.fill, Value.cells, kI, kB, kU, kS, Kd.sc, rng1, rng2, rng3, rng4, kP])) rfl segs_nil) ?_
      rintro v84 H85 ⟨hx86, ho87⟩
      have ch88 := But.trans ch72 (Ext.but hx86 _)
      have q89 := Nat.le_trans q73 hx86.bd
      have q90 := Nat.le_trans q74 hx86.bd
      have q91 := Nat.le_trans q75 hx86.bd
      have X92 := Ext.trans X79 hx86
      have ho93 := ho76.ext hx86
      have ho94 := ho77.ext hx86
      have hb95 := hb78.ext hx86
      have X97 := Ext.refl H85
      have y98 := hb95.lt
      have o99 := X92.bd
      have o100 := X97.bd
      have a101 := ho93.ltb
      have a102 := ho94.ltb
      have a103 := ho87.ltb
      have hc108 : v84.cells = #[v84] := by obtain ⟨A, c, e⟩ := ho87.rd.isSl; rw [e]; rfl
      refine AL.w rfl (.inl rfl) (WV.bsK (K := kV) (l := [v84]) (css := [[v84]]) sl45 rfl rfl (by simp [Instr.fill, hc108, kV, rng1]) rfl (segs_cons ⟨rfl, _, ho87.rd.isSl⟩ segs_nil)) ?_
      rintro v104 H105 ⟨hx106, ho107⟩
      have ch109 := But.trans ch88 (Ext.but hx106 _)
      have q110 := Nat.le_trans q89 hx106.bd
      have q111 := Nat.le_trans q90 hx106.bd
      have q112 := Nat.le_trans q91 hx106.bd
      have X113 := Ext.trans X92 hx106
      have X114 := Ext.trans X97 hx106
      have ho115 := ho93.ext hx106
      have ho116 := ho94.ext hx106
      have ho117 := ho87.ext hx106
      have hb118 := hb95.ext hx106
      refine AL.w rfl (.inl rfl) (WV.apk sl45 rfl rfl ho116 ho107.rd (by simp; omega) (by simp; omega) (fun b hb _ e => Nat.lt_irrefl _ (Nat.lt_of_lt_of_le (a102 b e) hb))) ?_
      rintro v120 H121 ⟨hx122, ho123, hb124⟩
      have ho125 := ho123.narrow (ok' := fun b => B0.bd ≤ b ∧ some b = v120.ownBlock) kV_flat (fun b q => ⟨(hb124 b q).elim (fun e => (ho116.blk b e).1.1) (fun e => Nat.le_trans q110 e), q⟩)
      have d126 : ∀ b, some b = v50.ownBlock → some b = v120.ownBlock → False := fun b h1 h2 => (hb124 b h2).elim (fun e => d57 b h1 e) (fun e => by have := (ho115.blk b h1).2.1; omega)
      have d127 : ∀ b, some b = v120.ownBlock → some b = v50.ownBlock → False := fun b h1 h2 => d126 b h2 h1
      have lb128 : ∀ x, some x = v120.ownBlock → some x = vc.ownBlock ∨ H.bd ≤ x := fun x q => (hb124 x q).elim (fun e => (fun x (q : some x = vc.ownBlock) => (.inl q : some x = vc.ownBlock ∨ H.bd ≤ x)) x e) (fun e => .inr (Nat.le_trans q111 e))
      have an129 : ∀ b', some b' = v120.ownBlock → b' = bb → False := fun b' h1 h2 => (hb124 b' h1).elim (fun e => (fun (b' : Nat) (h1 : some b' = vc.ownBlock) (h2 : b' = bb) => by have q := (h.hc.blk b' h1).1.2; have q2 := h.lb; subst h2; omega) b' e h2) (fun e => by have := hb118.lt; subst h2; omega)
      have ch130 := But.thru2 ch109 hx122 (fun x e => ((fun x (q : some x = vc.ownBlock) => (.inl q : some x = vc.ownBlock ∨ H.bd ≤ x)) x e).imp (fun q => .inr (.inr q)) id)
      have q131 := Nat.le_trans q110 hx122.bd
      have q132 := Nat.le_trans q111 hx122.bd
      have q133 := Nat.le_trans q112 hx122.bd
      have q135 := Nat.le_trans X113.bd hx122.bd
      have q137 := Nat.le_trans X114.bd hx122.bd
      have ho138 := ho115.but hx122 (fun b h1 _ h2 => d57 b h1.2 h2) (fun b hb => (ho116.blk b hb).2.2)
      have hb139 := hb118.but hx122 (fun e => (fun (b' : Nat) (h1 : some b' = vc.ownBlock) (h2 : b' = bb) => by have q := (h.hc.blk b' h1).1.2; have q2 := h.lb; subst h2; omega) _ e rfl)
      refine AL.val rfl (.inl rfl) (HV.nc rfl) ?_
      refine AL.val rfl (.inl rfl) (HV.fa fl82_2 rfl) ?_
      refine AL.w0 (.inl rfl) (WV.st rfl rfl va45 (sl_size ho125.rd.isSl) hb139 (Nat.le_of_ble_eq_true rfl) (sl_one ho125.rd.isSl)) ?_
      rintro _ H140 ⟨hx141, hb142⟩
      rw [sl_cells ho125.rd.isSl] at hb142
      have ch143 := But.trans ch130 (But.mono hx141 (fun x e => .inl e))
      have q144 := Nat.le_trans q131 hx141.bd
      have q145 := Nat.le_trans q132 hx141.bd
      have q146 := Nat.le_trans q133 hx141.bd
      have q147 := Nat.le_trans q135 hx141.bd
      have q148 := Nat.le_trans q137 hx141.bd
      have ho149 := ho138.but hx141 (fun b hb _ e => an59 b hb.2 e) (fun z_ hz_ => by rw [hz_]; exact hb139.w)
      have ho150 := ho125.but hx141 (fun b hb _ e => an129 b hb.2 e) (fun z_ hz_ => by rw [hz_]; exact hb139.w)
      have hb151 : At W H140 bb ⟨82, [.int .i64 n, v50, v120], 3⟩ := hb142
      refine AL.nx ?_
      refine AW.seq ?_
      refine AW.rs ?_
      refine AL.val rfl (.inl rfl) (HV.mv rfl) ?_
      refine AL.val rfl (.inl rfl) (HV.nc rfl) ?_
      refine AL.val rfl (.inl rfl) (HV.fa fl82_1 rfl) ?_
      refine AL.val rfl (.inl rfl) (HV.ld rfl va45 (at_cell_add hb151 rfl)) ?_
      refine AL.val rfl (.inl rfl) (HV.len Try.underlying45 rfl ho149.rd.isSl) ?_
      refine AL.val rfl (.inl rfl) (HV.sub rfl rfl (by simp; omega)) ?_
      refine AL.val rfl (.inl rfl) (HV.as rfl) ?_
      refine AL.nx ?_
      refine AW.block ?_
      refine AW.loop (σ := Nat × Int × List Value × List Value) (fun ⟨i, q, LL, CC⟩ => [(0, .pointer (some ⟨bb, 0, none⟩)), (1, vw), (2, .int .i64 s), (6, .int .i64 (a : Int)), (9, .int .i64 q)]) (fun ⟨i, q, LL, CC⟩ H' => At W H' bb ⟨82, [.int .i64 n, v50, v120], 3⟩ ∧ B0.bd ≤ H'.bd ∧ a ≤ i ∧ i ≤ st.length ∧ q = (i : Int) ∧ ShiftL lv a i LL ∧ ShiftL cv a i CC ∧ OwnK kV 22 W H' (fun x => B0.bd ≤ x ∧ some x = v50.ownBlock) v50 LL ∧ OwnK kV 22 W H' (fun x => B0.bd ≤ x ∧ some x = v120.ownBlock) v120 CC ∧ But (fun x => x = bb ∨ some x = vl.ownBlock ∨ some x = vc.ownBlock) H H' ∧ True) (fun ⟨i, q, LL, CC⟩ => i) (st.length, ((lv ++ [vw]).length : Int) - 1, (lv ++ [vw]), (cv ++ [v84])) ⟨hb151, q144, by omega, Nat.le_refl _, by simp; have := h.ll; omega, h.ll ▸ ShiftL.start, h.lc ▸ ShiftL.start, ho149, ho150, ch143, trivial⟩ ⟨rfl, rfl, rfl, rfl, rfl, trivial⟩ ?_
      rintro ⟨i, q, LL, CC⟩ H152 ⟨hb153, q154, hai, hil, hq, hSL, hSC, hoL2, hoC2, hch, _⟩
      have hLl := hSL.len
      have hCl := hSC.len
      rw [h.ll] at hLl
      rw [h.lc] at hCl
      refine AW.seq ?_
      refine AW.rs ?_
      refine AL.val rfl (.inl rfl) (HV.mv rfl) ?_
      refine AL.val rfl (.inl rfl) (HV.mv rfl) ?_
      refine AL.val rfl (.inl rfl) (HV.gti rfl rfl) ?_
      refine AL.nx ?_
      refine AW.ifd rfl (fun c155 => ?_) (fun c155 => ?_)
      · -- then
        refine AW.skip ?_
        refine nrm_and ?_
        refine AW.seq ?_
        refine AW.block ?_
        refine AW.seq ?_
        refine AW.draw' [0, 1, 3, 7, 0, 0, 32, 96, 224, 0, 512, 2016, 4064, 8191, 16383] mixed (by rfl) ?_
        refine Dr.read 0 _ 84 _ rfl rfl rfl rfl rfl (RV.of (by intro _ _ h; cases h) (.inl rfl) (fun _ xd => HV.mv rfl)) ?_
        refine Dr.read 1 _ 85 _ rfl rfl rfl rfl rfl (RV.of (by intro _ _ h; cases h) (.inl rfl) (fun _ xd => HV.nc rfl)) ?_
        refine Dr.read 2 _ 86 _ rfl rfl rfl rfl rfl (RV.of (by intro _ _ h; cases h) (.inl rfl) (fun _ xd => HV.fa fl82_1 rfl)) ?_
        refine Dr.read 3 _ 87 _ rfl rfl rfl rfl rfl (RV.of (by intro _ _ h; cases h) (.inl rfl) (fun _ xd => HV.ld rfl va45 (rdc_ext xd (at_cell_add hb153 rfl)))) ?_
        refine Dr.read 4 _ 88 _ rfl rfl rfl rfl rfl (RV.of (by intro _ _ h; cases h) (.inl rfl) (fun _ xd => HV.mv rfl)) ?_
        refine Dr.read 5 _ 89 _ rfl rfl rfl rfl rfl (RV.of (by intro _ _ h; cases h) (.inl rfl) (fun _ xd => HV.mv rfl)) ?_
        refine Dr.read 6 _ 90 _ rfl rfl rfl rfl rfl (RV.of (by intro _ _ h; cases h) (.inl rfl) (fun _ xd => HV.nc rfl)) ?_
        refine Dr.read 7 _ 91 _ rfl rfl rfl rfl rfl (RV.of (by intro _ _ h; cases h) (.inl rfl) (fun _ xd => HV.fa fl82_1 rfl)) ?_
        refine Dr.read 8 _ 92 _ rfl rfl rfl rfl rfl (RV.of (by intro _ _ h; cases h) (.inl rfl) (fun _ xd => HV.ld rfl va45 (rdc_ext xd (at_cell_add hb153 rfl)))) ?_
        refine Dr.read 9 _ 93 _ rfl rfl rfl rfl rfl (RV.of (by intro _ _ h; cases h) (.inl rfl) (fun _ xd => HV.mv rfl)) ?_
        refine Dr.read 10 _ 94 _ rfl rfl rfl rfl rfl (RV.of (by intro _ _ h; cases h) (.inl rfl) (fun _ xd => HV.sub rfl rfl (by omega))) ?_
        obtain ⟨g156, z157, cs158, hz159, hK160, hC161, hg162, hP163⟩ := OwnK.ix (q := q - 1) hoL2 sl45 (by omega) (by omega)
        have X164 := Ext.refl H152
        obtain ⟨rfl, n166, isl165⟩ : cs158 = [z157] ∧ ∃ n, IsSl z157 n := hK160
        refine Dr.read 11 _ 95 _ rfl rfl rfl rfl rfl (RV.of (by intro _ _ h; cases h) (.inl rfl) (fun _ xd => hP163 rfl rfl)) ?_
        refine Dr.read 12 _ 96 _ rfl rfl rfl rfl rfl (RV.of (by intro _ _ h; cases h) (.inl rfl) (fun _ xd => HV.ld rfl va22 (rdc_ext xd (cells_first hC161 rfl)))) ?_
        obtain ⟨g167, z168, cs169, hz170, hK171, hC172, hg173, hP174⟩ := OwnK.ix (q := q) hoL2 sl45 (by omega) (by omega)
        obtain ⟨rfl, n176, isl175⟩ : cs169 = [z168] ∧ ∃ n, IsSl z168 n := hK171
        refine Dr.read 13 _ 97 _ rfl rfl rfl rfl rfl (RV.of (by intro _ _ h; cases h) (.inl rfl) (fun _ xd => hP174 rfl rfl)) ?_
        refine Dr.eff 14 _ _ rfl (by intro d h; cases h) rfl rfl rfl (EC.of (by intro _ _ h; cases h) (.inl rfl) (WV.stK (okx := fun _ => False) (x' := z157) hoL2 hg173 rfl rfl va22 (by first | omega | (rw [List.length_replicate]; omega) | (have := hccl.1; simp only at this; omega)) ⟨sl_cells isl165, _, isl165⟩ (fun _ h => h.elim))) (fun v H' h => .inr (.inl rfl)) ?_
        rintro _ H177 ⟨hx178, ho179⟩
        have ch180 := But.thru2 hch hx178 (fun x e => (lb58 x e).imp (fun q => .inr (.inl q)) id)
        have q181 := Nat.le_trans q154 hx178.bd
        have q183 := Nat.le_trans X164.bd hx178.bd
        have ho184 := hoC2.but hx178 (fun b h1 _ h2 => d127 b h1.2 h2) (fun b hb => (hoL2.blk b hb).2.2)
        have hb185 := hb153.but hx178 (fun e => an59 _ e rfl)
        have ho186 := ho179.okk (ok' := fun x => B0.bd ≤ x ∧ some x = v50.ownBlock) (fun b hb _ => hb.elim id False.elim)
        refine Dr.fin rfl ?_
        refine nrm_and ?_
        refine AW.draw' [0, 1, 3, 7, 0, 0, 32, 96, 224, 0, 512, 2016, 4064, 8191, 16383] mixed (by rfl) ?_
        refine Dr.read 0 _ 98 _ rfl rfl rfl rfl rfl (RV.of (by intro _ _ h; cases h) (.inl rfl) (fun _ xd => HV.mv rfl)) ?_
        refine Dr.read 1 _ 99 _ rfl rfl rfl rfl rfl (RV.of (by intro _ _ h; cases h) (.inl rfl) (fun _ xd => HV.nc rfl)) ?_
        refine Dr.read 2 _ 100 _ rfl rfl rfl rfl rfl (RV.of (by intro _ _ h; cases h) (.inl rfl) (fun _ xd => HV.fa fl82_2 rfl)) ?_
        refine Dr.read 3 _ 101 _ rfl rfl rfl rfl rfl (RV.of (by intro _ _ h; cases h) (.inl rfl) (fun _ xd => HV.ld rfl va45 (rdc_ext xd (at_cell_add hb185 rfl)))) ?_
        refine Dr.read 4 _ 102 _ rfl rfl rfl rfl rfl (RV.of (by intro _ _ h; cases h) (.inl rfl) (fun _ xd => HV.mv rfl)) ?_
        refine Dr.read 5 _ 103 _ rfl rfl rfl rfl rfl (RV.of (by intro _ _ h; cases h) (.inl rfl) (fun _ xd => HV.mv rfl)) ?_
        refine Dr.read 6 _ 104 _ rfl rfl rfl rfl rfl (RV.of (by intro _ _ h; cases h) (.inl rfl) (fun _ xd => HV.nc rfl)) ?_
        refine Dr.read 7 _ 105 _ rfl rfl rfl rfl rfl (RV.of (by intro _ _ h; cases h) (.inl rfl) (fun _ xd => HV.fa fl82_2 rfl)) ?_
        refine Dr.read 8 _ 106 _ rfl rfl rfl rfl rfl (RV.of (by intro _ _ h; cases h) (.inl rfl) (fun _ xd => HV.ld rfl va45 (rdc_ext xd (at_cell_add hb185 rfl)))) ?_
        refine Dr.read 9 _ 107 _ rfl rfl rfl rfl rfl (RV.of (by intro _ _ h; cases h) (.inl rfl) (fun _ xd => HV.mv rfl)) ?_
        refine Dr.read 10 _ 108 _ rfl rfl rfl rfl rfl (RV.of (by intro _ _ h; cases h) (.inl rfl) (fun _ xd => HV.sub rfl rfl (by omega))) ?_
        obtain ⟨g187, z188, cs189, hz190, hK191, hC192, hg193, hP194⟩ := OwnK.ix (q := q - 1) ho184 sl45 (by omega) (by omega)
        have X195 := Ext.refl H177
        obtain ⟨rfl, n197, isl196⟩ : cs189 = [z188] ∧ ∃ n, IsSl z188 n := hK191
        refine Dr.read 11 _ 109 _ rfl rfl rfl rfl rfl (RV.of (by intro _ _ h; cases h) (.inl rfl) (fun _ xd => hP194 rfl rfl)) ?_
        refine Dr.read 12 _ 110 _ rfl rfl rfl rfl rfl (RV.of (by intro _ _ h; cases h) (.inl rfl) (fun _ xd => HV.ld rfl va22 (rdc_ext xd (cells_first hC192 rfl)))) ?_
        obtain ⟨g198, z199, cs200, hz201, hK202, hC203, hg204, hP205⟩ := OwnK.ix (q := q) ho184 sl45 (by omega) (by omega)
        obtain ⟨rfl, n207, isl206⟩ : cs200 = [z199] ∧ ∃ n, IsSl z199 n := hK202
        refine Dr.read 13 _ 111 _ rfl rfl rfl rfl rfl (RV.of (by intro _ _ h; cases h) (.inl rfl) (fun _ xd => hP205 rfl rfl)) ?_
        refine Dr.eff 14 _ _ rfl (by intro d h; cases h) rfl rfl rfl (EC.of (by intro _ _ h; cases h) (.inl rfl) (WV.stK (okx := fun _ => False) (x' := z188) ho184 hg204 rfl rfl va22 (by first | omega | (rw [List.length_replicate]; omega) | (have := hccl.1; simp only at this; omega)) ⟨sl_cells isl196, _, isl196⟩ (fun _ h => h.elim))) (fun v H' h => .inr (.inl rfl)) ?_
        rintro _ H208 ⟨hx209, ho210⟩
        have ch211 := But.thru2 ch180 hx209 (fun x e => (lb128 x e).imp (fun q => .inr (.inr q)) id)
        have q212 := Nat.le_trans q181 hx209.bd
        have q213 := Nat.le_trans q183 hx209.bd
        have q215 := Nat.le_trans X195.bd hx209.bd
        have ho216 := ho186.but hx209 (fun b h1 _ h2 => d126 b h1.2 h2) (fun b hb => (ho184.blk b hb).2.2)
        have hb217 := hb185.but hx209 (fun e => an129 _ e rfl)
        have ho218 := ho210.okk (ok' := fun x => B0.bd ≤ x ∧ some x = v120.ownBlock) (fun b hb _ => hb.elim id False.elim)
        refine Dr.fin rfl ?_
        refine nrm_blk (nrm_and ?_)
        refine AW.reg ?_
        refine AL.val rfl (.inl rfl) (HV.mv rfl) ?_
        refine AL.val rfl (.inl rfl) (HV.sub rfl rfl (by omega)) ?_
        refine AL.val rfl (.inl rfl) (HV.as rfl) ?_
        refine AL.nil ?_
        refine nrm_and ?_
        exact ⟨(i - 1, q - 1, (LL.set (q : Int).toNat z157), (CC.set (q : Int).toNat z188)), ⟨hb217, q212, by omega, by omega, by omega, by rw [show (q : Int).toNat = i by omega]; exact hSL.step (by omega) (by have q1 := h.ll; have q2 := h.lc; omega) (by have q3 := hz159; rwa [show ((q - 1 : Int)).toNat = i - 1 by omega] at q3), by rw [show (q : Int).toNat = i by omega]; exact hSC.step (by omega) (by have q1 := h.ll; have q2 := h.lc; omega) (by have q3 := hz190; rwa [show ((q - 1 : Int)).toNat = i - 1 by omega] at q3), ho216, ho218, ch211, trivial⟩, by first | omega | (dsimp only; omega), ⟨rfl, rfl, rfl, rfl, rfl, trivial⟩⟩
      · -- else
        refine AW.exit ?_
        refine ex_and (ex_and (ex_blk ?_))
        refine nrm_and ?_
        refine AW.rs ?_
        refine AL.val rfl (.inl rfl) (HV.mv rfl) ?_
        refine AL.val rfl (.inl rfl) (HV.nc rfl) ?_
        refine AL.val rfl (.inl rfl) (HV.fa fl82_1 rfl) ?_
        refine AL.val rfl (.inl rfl) (HV.ld rfl va45 (at_cell_add hb153 rfl)) ?_
        refine AL.val rfl (.inl rfl) (HV.mv rfl) ?_
        refine AL.val rfl (.inl rfl) (HV.mv rfl) ?_
        obtain ⟨g219, z220, cs221, hz222, hK223, hC224, hg225, hP226⟩ := OwnK.ix (q := (a : Int)) hoL2 sl45 (by omega) (by omega)
        have X227 := Ext.refl H152
        obtain ⟨rfl, n229, isl228⟩ : cs221 = [z220] ∧ ∃ n, IsSl z220 n := hK223
        refine AL.val rfl (.inl rfl) (hP226 rfl rfl) ?_
        refine AL.w0 (.inl rfl) (WV.stK (okx := fun _ => False) (x' := vw) hoL2 hg225 rfl rfl va22 (by first | omega | (rw [List.length_replicate]; omega) | (have := hccl.1; simp only at this; omega)) ⟨sl_cells hv.isSl, _, hv.isSl⟩ (fun _ h => h.elim)) ?_
        rintro _ H230 ⟨hx231, ho232⟩
        have ch234 := But.thru2 hch hx231 (fun x e => (lb58 x e).imp (fun q => .inr (.inl q)) id)
        have q235 := Nat.le_trans q154 hx231.bd
        have q236 := Nat.le_trans hch.bd hx231.bd
        have q238 := Nat.le_trans X227.bd hx231.bd
        have ho239 := hoC2.but hx231 (fun b h1 _ h2 => d127 b h1.2 h2) (fun b hb => (hoL2.blk b hb).2.2)
        have hb240 := hb153.but hx231 (fun e => an59 _ e rfl)
        have ho233 := ho232.okk (ok' := fun x => B0.bd ≤ x ∧ some x = v50.ownBlock) (fun b hb _ => hb.elim id False.elim)
        refine AL.nx ?_
        refine AW.draw' [0, 1, 3, 7, 0, 0, 32, 96, 224, 480, 1023, 2047] mixed (by rfl) ?_
        refine Dr.read 0 _ 119 _ rfl rfl rfl rfl rfl (RV.of (by intro _ _ h; cases h) (.inl rfl) (fun _ xd => HV.mv rfl)) ?_
        refine Dr.read 1 _ 120 _ rfl rfl rfl rfl rfl (RV.of (by intro _ _ h; cases h) (.inl rfl) (fun _ xd => HV.nc rfl)) ?_
        refine Dr.read 2 _ 121 _ rfl rfl rfl rfl rfl (RV.of (by intro _ _ h; cases h) (.inl rfl) (fun _ xd => HV.fa fl82_2 rfl)) ?_
        refine Dr.read 3 _ 122 _ rfl rfl rfl rfl rfl (RV.of (by intro _ _ h; cases h) (.inl rfl) (fun _ xd => HV.ld rfl va45 (rdc_ext xd (at_cell_add hb240 rfl)))) ?_
        refine Dr.read 4 _ 123 _ rfl rfl rfl rfl rfl (RV.of (by intro _ _ h; cases h) (.inl rfl) (fun _ xd => HV.mv rfl)) ?_
        refine Dr.read 5 _ 124 _ rfl rfl rfl rfl rfl (RV.of (by intro _ _ h; cases h) (.inl rfl) (fun _ xd => HV.mv rfl)) ?_
        refine Dr.read 6 _ 125 _ rfl rfl rfl rfl rfl (RV.of (by intro _ _ h; cases h) (.inl rfl) (fun _ xd => HV.nc rfl)) ?_
        refine Dr.read 7 _ 126 _ rfl rfl rfl rfl rfl (RV.of (by intro _ _ h; cases h) (.inl rfl) (fun _ xd => HV.fa fl82_0 rfl)) ?_
        refine Dr.read 8 _ 127 _ rfl rfl rfl rfl rfl (RV.of (by intro _ _ h; cases h) (.inl rfl) (fun _ xd => HV.ld rfl va2 (rdc_ext xd (at_cell hb240 rfl)))) ?_
        have X241 := Ext.refl H230
        have y242 := hb240.lt
        have o243 := X241.bd
        have a244 := ho233.ltb
        have a245 := ho239.ltb
        refine Dr.eff 9 _ _ rfl (by intro d h; cases h; exact ⟨rfl, rfl⟩) rfl rfl rfl (EC.of (by intro _ _ h; cases h) (.inl rfl) (WV.mkK (K := kI) (0 : Int) (fun _ _ _ => rfl) sl22 rfl rfl rfl (by omega) (by omega) (by omega))) (fun v H' h => .inl (h.1)) ?_
        rintro v246 H247 ⟨hx248, ho249⟩
        have ch250 := But.trans ch234 (Ext.but hx248 _)
        have q251 := Nat.le_trans q235 hx248.bd
        have q252 := Nat.le_trans q236 hx248.bd
        have q253 := Nat.le_trans q238 hx248.bd
        have X254 := Ext.trans X241 hx248
        have ho255 := ho233.ext hx248
        have ho256 := ho239.ext hx248
        have hb257 := hb240.ext hx248
        obtain ⟨g259, z260, cs261, hz262, hK263, hC264, hg265, hP266⟩ := OwnK.ix (q := (a : Int)) ho256 sl45 (by omega) (by omega)
        have X267 := Ext.refl H247
        obtain ⟨rfl, n269, isl268⟩ : cs261 = [z260] ∧ ∃ n, IsSl z260 n := hK263
        refine Dr.read 10 _ 129 _ rfl rfl rfl rfl rfl (RV.of (by intro _ _ h; cases h) (.inl rfl) (fun _ xd => hP266 rfl rfl)) ?_
        refine Dr.eff 11 _ _ rfl (by intro d h; cases h) rfl rfl rfl (EC.of (by intro _ _ h; cases h) (.inl rfl) (WV.stK (okx := fun _ => False) (x' := v246) ho256 hg265 rfl rfl va22 (by first | omega | (rw [List.length_replicate]; omega) | (have := hccl.1; simp only at this; omega)) ⟨sl_cells ho249.rd.isSl, _, ho249.rd.isSl⟩ (fun _ h => h.elim))) (fun v H' h => .inr (.inl rfl)) ?_
        rintro _ H270 ⟨hx271, ho272⟩
        have ch274 := But.thru2 ch250 hx271 (fun x e => (lb128 x e).imp (fun q => .inr (.inr q)) id)
        have q275 := Nat.le_trans q251 hx271.bd
        have q276 := Nat.le_trans q252 hx271.bd
        have q277 := Nat.le_trans q253 hx271.bd
        have q279 := Nat.le_trans X254.bd hx271.bd
        have q281 := Nat.le_trans X267.bd hx271.bd
        have ho282 := ho255.but hx271 (fun b h1 _ h2 => d126 b h1.2 h2) (fun b hb => (ho256.blk b hb).2.2)
        have ho283 := ho249.but hx271 (fun b hb _ e => Nat.lt_irrefl _ (Nat.lt_of_lt_of_le (a245 b e) hb)) (fun b hb => (ho256.blk b hb).2.2)
        have hb284 := hb257.but hx271 (fun e => an129 _ e rfl)
        have ho273 := ho272.okk (ok' := fun x => B0.bd ≤ x ∧ some x = v120.ownBlock) (fun b hb _ => hb.elim id False.elim)
        refine Dr.fin rfl ?_
        refine nrm_and ?_
        refine AW.reg ?_
        refine AL.val rfl (.inl rfl) (HV.mv rfl) ?_
        refine AL.val rfl (.inl rfl) (HV.nc rfl) ?_
        refine AL.val rfl (.inl rfl) (HV.fa fl82_2 rfl) ?_
        refine AL.val rfl (.inl rfl) (HV.ld rfl va45 (at_cell_add hb284 rfl)) ?_
        refine AL.val rfl (.inl rfl) (HV.mv rfl) ?_
        obtain ⟨g285, z286, cs287, hz288, hK289, hC290, hg291, hP292⟩ := OwnK.ix (q := (a : Int)) ho273 sl45 (by omega) (by first | omega | (rw [List.length_set]; omega))
        have X293 := Ext.refl H270
        obtain ⟨rfl, n295, isl294⟩ : cs287 = [z286] ∧ ∃ n, IsSl z286 n := hK289
        refine AL.val rfl (.inl rfl) (hP292 rfl rfl) ?_
        have e296 : v246 = z286 := by have q := hz288; rw [Int.toNat_natCast, List.getElem?_set_self (by have := hSC.len; rw [h.lc] at this; omega)] at q; exact Option.some.inj q
        subst e296
        refine AL.val rfl (.inl rfl) (HV.ld rfl va22 (cells_first hC290 rfl)) ?_
        refine AL.val rfl (.inl rfl) (HV.mv rfl) ?_
        obtain ⟨g297, z298, cs299, hz300, hK301, hC302, hg303, hP304⟩ := OwnK.ix (q := s) ho283 sl22 hsn.1 (by first | (have := hccl.1; simp only at this; omega) | (rw [List.length_replicate]; omega))
        obtain rfl : cs299 = [.int .i64 z298] := hK301
        refine AL.val rfl (.inl rfl) (hP304 rfl rfl) ?_
        refine AL.val rfl (.inl rfl) (HV.ld rfl va2 (cells_first hC302 rfl)) ?_
        refine AL.val rfl (.inl rfl) (HV.add rfl rfl (by have q := List.mem_of_getElem? hz300; first | (have q2 := hccl.2 _ q; omega) | (have q2 := (List.mem_replicate.1 q).2; omega))) ?_
        obtain ⟨g305, z306, cs307, hz308, hK309, hC310, hg311, hP312⟩ := OwnK.ix (q := s) ho283 sl22 hsn.1 (by first | (have := hccl.1; simp only at this; omega) | (rw [List.length_replicate]; omega))
        obtain rfl : cs307 = [.int .i64 z306] := hK309
        refine AL.val rfl (.inl rfl) (hP312 rfl rfl) ?_
        refine AL.w0 (.inl rfl) (WV.stK (okx := fun _ => False) (x' := z298 + 1) ho283 hg311 rfl rfl va2 (by first | omega | (rw [List.length_replicate]; omega) | (have := hccl.1; simp only at this; omega)) rfl (fun _ h => h.elim)) ?_
        rintro _ H313 ⟨hx314, ho315⟩
        have ch316 := But.thru ch274 hx314 (fun b hb => Nat.le_trans q236 (ho283.blk b hb).1)
        have q317 := Nat.le_trans q275 hx314.bd
        have q318 := Nat.le_trans q276 hx314.bd
        have q319 := Nat.le_trans q277 hx314.bd
        have q320 := Nat.le_trans q279 hx314.bd
        have q321 := Nat.le_trans q281 hx314.bd
        have q323 := Nat.le_trans X293.bd hx314.bd
        have ho324 := ho282.but hx314 (fun b hb _ e => by have h1 := a244 b hb.2; have h2 : H230.bd ≤ b := (ho283.blk b e).1; omega) (fun b hb => (ho283.blk b hb).2.2)
        have ho325 := ho273.but hx314 (fun b hb _ e => by have h1 := a245 b hb.2; have h2 : H230.bd ≤ b := (ho283.blk b e).1; omega) (fun b hb => (ho283.blk b hb).2.2)
        have hb326 := hb284.but hx314 (fun e => by have q : H230.bd ≤ _ := (ho283.blk _ e).1; omega)
        have ho327 := ho315.okk (ok' := fun b => H230.bd ≤ b) (fun b hb _ => hb.elim id False.elim)
        refine AL.nil ?_
        refine post_none rfl ?_ (.inl rfl)
        have hno : ¬ hasV st g := (fun hh => by have q := hasV_iff.1 hh; rw [hp] at q; omega); have hle : a ≤ st.length := (by omega); have e := addV_of (n := n) (st := st) (v := g) (s := s) (q := (a : Int)) (x := (g, List.replicate n.toNat (0 : Int))) (by rw [hp]) (by rw [putV_new hno, Int.toNat_natCast, hp, insL_get hle, if_neg (Nat.lt_irrefl _), if_pos rfl]) rfl hz300; rw [putV_new hno, Int.toNat_natCast, hp, insL_set hle] at e; have hia : i = a := (by omega); rw [hia] at hSL hSC; have hL9 := ho324; have hC9 := ho325; rw [Int.toNat_natCast, hSL.done (by rw [h.ll]; omega)] at hL9; rw [Int.toNat_natCast, hSC.done (by rw [h.lc]; omega)] at hC9; obtain ⟨lab', q9⟩ := h.new hB hle ch316 hb326 hL9 hC9 hv ho327 lb58 lb128 (fun x q => Nat.le_trans q236 (ho327.blk x q).1) d126 (fun x h1 h2 => by have q1 := a244 x h2; have q2 := (ho327.blk x h1).1; omega) (fun x h1 h2 => by have q1 := a245 x h2; have q2 := (ho327.blk x h1).1; omega); exact ⟨⟨lab', _, _, _, _, by rw [← e]; exact q9⟩, ch316.mono (fun x hx => by rcases hx with rfl | hx | hx; (exact h.bB); (exact (h.hl.blk x hx).1.1); (exact (h.hc.blk x hx).1.1))⟩
    · -- false
      have c21_ : decide ((a : Int) = ((st.map Prod.fst).length : Int)) = false := decide_eq_false c21
      rw [c21_]
      refine AL.val rfl (.inr ⟨_, _, _, rfl, rfl, rfl⟩) (HV.mv rfl) ?_
      refine AL.val rfl (.inr ⟨_, _, _, rfl, rfl, rfl⟩) (HV.nc rfl) ?_
      refine AL.val rfl (.inr ⟨_, _, _, rfl, rfl, rfl⟩) (HV.fa fl82_1 rfl) ?_
      refine AL.val rfl (.inr ⟨_, _, _, rfl, rfl, rfl⟩) (HV.ld rfl va45 (at_cell_add hb4 rfl)) ?_
      refine AL.val rfl (.inr ⟨_, _, _, rfl, rfl, rfl⟩) (HV.mv rfl) ?_
      obtain ⟨p328, z329, cs330, hz331, hK332, hC333, hP334⟩ := RdK.ix (q := (a : Int)) h.rdL sl45 (by omega) (by omega)
      obtain ⟨v335, rfl, hr336⟩ := hK332
      have hm337 := hr336.max
      refine AL.val rfl (.inr ⟨_, _, _, rfl, rfl, rfl⟩) (hP334 rfl rfl) ?_
      refine AL.val rfl (.inr ⟨_, _, _, rfl, rfl, rfl⟩) (HV.ld rfl va22 (cells_first (hC333.ext X3) rfl)) ?_
      refine AL.val rfl (.inr ⟨_, _, _, rfl, rfl, rfl⟩) (HV.mv rfl) ?_
      refine AL.w rfl (.inr ⟨_, _, _, rfl, rfl, rfl⟩) (WV.call fn36 rfl (l00Same_ok (hr336.ext X3) (hv.ext X3))) ?_
      rintro _ H338 ⟨rfl, hx339⟩
      have X340 := Ext.trans X3 hx339
      have hb341 := hb4.ext hx339
      refine AL.val rfl (.inr ⟨_, _, _, rfl, rfl, rfl⟩) (HV.not rfl) ?_
      refine AL.val rfl (.inl rfl) (HV.pickF rfl rfl) ?_
      refine AL.nx ?_
      refine AW.ifn rfl (fun c342 => ?_) (fun c342 => ?_)
      · -- then
        refine AW.rs ?_
        have hoL343 := (h.hl.ext X340).narrow (ok' := fun x => B0.bd ≤ x ∧ some x = vl.ownBlock) kV_flat (fun x q => ⟨(h.hl.blk x q).1.1, q⟩)
        have hoC344 := (h.hc.ext X340).narrow (ok' := fun x => B0.bd ≤ x ∧ some x = vc.ownBlock) kV_flat (fun x q => ⟨(h.hc.blk x q).1.1, q⟩)
        have ch345 : But (fun x => x = bb ∨ some x = vl.ownBlock ∨ some x = vc.ownBlock) H H338 := Ext.but X340 _
        have qB346 := Nat.le_trans hB X340.bd
        have qH347 := X340.bd
        have d348 : ∀ x, some x = vl.ownBlock → some x = vc.ownBlock → False := fun x h1 h2 => by have q1 := (h.hl.blk x h1).1.2; have q2 := (h.hc.blk x h2).1.2; omega
        have d349 : ∀ x, some x = vc.ownBlock → some x = vl.ownBlock → False := fun x h1 h2 => d348 x h2 h1
        refine AL.val rfl (.inl rfl) (HV.mv rfl) ?_
        refine AL.val rfl (.inl rfl) (HV.mv rfl) ?_
        refine AL.val rfl (.inl rfl) (HV.nc rfl) ?_
        refine AL.val rfl (.inl rfl) (HV.fa fl82_1 rfl) ?_
        refine AL.val rfl (.inl rfl) (HV.ld rfl va45 (at_cell_add hb341 rfl)) ?_
        refine AL.val rfl (.inl rfl) (HV.mv rfl) ?_
        have X350 := Ext.refl H338
        have y351 := hb341.lt
        have o352 := X340.bd
        have o353 := X350.bd
        have a354 := hoL343.ltb
        have a355 := hoC344.ltb
        have hc360 : vw.cells = #[vw] := by obtain ⟨A, c, e⟩ := hv.isSl; rw [e]; rfl
        refine AL.w rfl (.inl rfl) (WV.bsK (K := kV) (l := [vw]) (css := [[vw]]) sl45 rfl rfl (by simp [Instr.fill, hc360, kV, rng1]) rfl (segs_cons ⟨rfl, _, hv.isSl⟩ segs_nil)) ?_
        rintro v356 H357 ⟨hx358, ho359⟩
        have ch361 := But.trans ch345 (Ext.but hx358 _)
        have q362 := Nat.le_trans qB346 hx358.bd
        have q363 := Nat.le_trans qH347 hx358.bd
        have X364 := Ext.trans X340 hx358
        have X365 := Ext.trans X350 hx358
        have ho366 := hoL343.ext hx358
        have ho367 := hoC344.ext hx358
        have hb368 := hb341.ext hx358
        refine AL.w rfl (.inl rfl) (WV.apk sl45 rfl rfl ho366 ho359.rd (by simp; omega) (by simp; omega) (fun b hb _ e => Nat.lt_irrefl _ (Nat.lt_of_lt_of_le (a354 b e) hb))) ?_
        rintro v370 H371 ⟨hx372, ho373, hb374⟩
        have ho375 := ho373.narrow (ok' := fun b => B0.bd ≤ b ∧ some b = v370.ownBlock) kV_flat (fun b q => ⟨(hb374 b q).elim (fun e => (ho366.blk b e).1.1) (fun e => Nat.le_trans q362 e), q⟩)
        have d376 : ∀ b, some b = vc.ownBlock → some b = v370.ownBlock → False := fun b h1 h2 => (hb374 b h2).elim (fun e => d349 b h1 e) (fun e => by have := (ho367.blk b h1).2.1; omega)
        have d377 : ∀ b, some b = v370.ownBlock → some b = vc.ownBlock → False := fun b h1 h2 => d376 b h2 h1
        have lb378 : ∀ x, some x = v370.ownBlock → some x = vl.ownBlock ∨ H.bd ≤ x := fun x q => (hb374 x q).elim (fun e => (fun x (q : some x = vl.ownBlock) => (.inl q : some x = vl.ownBlock ∨ H.bd ≤ x)) x e) (fun e => .inr (Nat.le_trans q363 e))
        have an379 : ∀ b', some b' = v370.ownBlock → b' = bb → False := fun b' h1 h2 => (hb374 b' h1).elim (fun e => (fun (b' : Nat) (h1 : some b' = vl.ownBlock) (h2 : b' = bb) => by have q := (h.hl.blk b' h1).1.2; have q2 := h.lb; subst h2; omega) b' e h2) (fun e => by have := hb368.lt; subst h2; omega)
        have ch380 := But.thru2 ch361 hx372 (fun x e => ((fun x (q : some x = vl.ownBlock) => (.inl q : some x = vl.ownBlock ∨ H.bd ≤ x)) x e).imp (fun q => .inr (.inl q)) id)
        have q381 := Nat.le_trans q362 hx372.bd
        have q382 := Nat.le_trans q363 hx372.bd
        have q384 := Nat.le_trans X364.bd hx372.bd
        have q386 := Nat.le_trans X365.bd hx372.bd
        have ho387 := ho367.but hx372 (fun b h1 _ h2 => d349 b h1.2 h2) (fun b hb => (ho366.blk b hb).2.2)
        have hb388 := hb368.but hx372 (fun e => (fun (b' : Nat) (h1 : some b' = vl.ownBlock) (h2 : b' = bb) => by have q := (h.hl.blk b' h1).1.2; have q2 := h.lb; subst h2; omega) _ e rfl)
        refine AL.val rfl (.inl rfl) (HV.nc rfl) ?_
        refine AL.val rfl (.inl rfl) (HV.fa fl82_1 rfl) ?_
        refine AL.w0 (.inl rfl) (WV.st rfl rfl va45 (sl_size ho375.rd.isSl) hb388 (Nat.le_of_ble_eq_true rfl) (sl_one ho375.rd.isSl)) ?_
        rintro _ H389 ⟨hx390, hb391⟩
        rw [sl_cells ho375.rd.isSl] at hb391
        have ch392 := But.trans ch380 (But.mono hx390 (fun x e => .inl e))
        have q393 := Nat.le_trans q381 hx390.bd
        have q394 := Nat.le_trans q384 hx390.bd
        have q395 := Nat.le_trans q386 hx390.bd
        have ho396 := ho375.but hx390 (fun b hb _ e => an379 b hb.2 e) (fun z_ hz_ => by rw [hz_]; exact hb388.w)
        have ho397 := ho387.but hx390 (fun b hb _ e => (fun (b' : Nat) (h1 : some b' = vc.ownBlock) (h2 : b' = bb) => by have q := (h.hc.blk b' h1).1.2; have q2 := h.lb; subst h2; omega) b hb.2 e) (fun z_ hz_ => by rw [hz_]; exact hb388.w)
        have hb398 : At W H389 bb ⟨82, [.int .i64 n, v370, vc], 3⟩ := hb391
        refine AL.nx ?_
        refine AW.rs ?_
        refine AL.val rfl (.inl rfl) (HV.mv rfl) ?_
        refine AL.val rfl (.inl rfl) (HV.mv rfl) ?_
        refine AL.val rfl (.inl rfl) (HV.nc rfl) ?_
        refine AL.val rfl (.inl rfl) (HV.fa fl82_2 rfl) ?_
        refine AL.val rfl (.inl rfl) (HV.ld rfl va45 (at_cell_add hb398 rfl)) ?_
        have X399 := Ext.refl H389
        have y400 := hb398.lt
        have o401 := X399.bd
        have a402 := ho396.ltb
        have a403 := ho397.ltb
        refine AL.w rfl (.inl rfl) (WV.bsK (K := kI) (l := ([] : List Int)) (css := []) sl22 rfl rfl (by first | rfl | (simp [Instr.fill, Value.cells, kI, kB, kU, kS, Kd.sc]; done) | (simp [Instr.fill, Value.cells, kI, kB, kU, kS, Kd.sc, rng1, rng2, rng3, rng4, kP])) rfl segs_nil) ?_
        rintro v404 H405 ⟨hx406, ho407⟩
        have ch408 := But.trans ch392 (Ext.but hx406 _)
        have q409 := Nat.le_trans q393 hx406.bd
        have q410 := Nat.le_trans q394 hx406.bd
        have q411 := Nat.le_trans q395 hx406.bd
        have X412 := Ext.trans X399 hx406
        have ho413 := ho396.ext hx406
        have ho414 := ho397.ext hx406
        have hb415 := hb398.ext hx406
        have X417 := Ext.refl H405
        have y418 := hb415.lt
        have o419 := X412.bd
        have o420 := X417.bd
        have a421 := ho413.ltb
        have a422 := ho414.ltb
        have a423 := ho407.ltb
        have hc428 : v404.cells = #[v404] := by obtain ⟨A, c, e⟩ := ho407.rd.isSl; rw [e]; rfl
        refine AL.w rfl (.inl rfl) (WV.bsK (K := kV) (l := [v404]) (css := [[v404]]) sl45 rfl rfl (by simp [Instr.fill, hc428, kV, rng1]) rfl (segs_cons ⟨rfl, _, ho407.rd.isSl⟩ segs_nil)) ?_
        rintro v424 H425 ⟨hx426, ho427⟩
        have ch429 := But.trans ch408 (Ext.but hx426 _)
        have q430 := Nat.le_trans q409 hx426.bd
        have q431 := Nat.le_trans q410 hx426.bd
        have q432 := Nat.le_trans q411 hx426.bd
        have X433 := Ext.trans X412 hx426
        have X434 := Ext.trans X417 hx426
        have ho435 := ho413.ext hx426
        have ho436 := ho414.ext hx426
        have ho437 := ho407.ext hx426
        have hb438 := hb415.ext hx426
        refine AL.w rfl (.inl rfl) (WV.apk sl45 rfl rfl ho436 ho427.rd (by simp; omega) (by simp; omega) (fun b hb _ e => Nat.lt_irrefl _ (Nat.lt_of_lt_of_le (a422 b e) hb))) ?_
        rintro v440 H441 ⟨hx442, ho443, hb444⟩
        have ho445 := ho443.narrow (ok' := fun b => B0.bd ≤ b ∧ some b = v440.ownBlock) kV_flat (fun b q => ⟨(hb444 b q).elim (fun e => (ho436.blk b e).1.1) (fun e => Nat.le_trans q430 e), q⟩)
        have d446 : ∀ b, some b = v370.ownBlock → some b = v440.ownBlock → False := fun b h1 h2 => (hb444 b h2).elim (fun e => d377 b h1 e) (fun e => by have := (ho435.blk b h1).2.1; omega)
        have d447 : ∀ b, some b = v440.ownBlock → some b = v370.ownBlock → False := fun b h1 h2 => d446 b h2 h1
        have lb448 : ∀ x, some x = v440.ownBlock → some x = vc.ownBlock ∨ H.bd ≤ x := fun x q => (hb444 x q).elim (fun e => (fun x (q : some x = vc.ownBlock) => (.inl q : some x = vc.ownBlock ∨ H.bd ≤ x)) x e) (fun e => .inr (Nat.le_trans q431 e))
        have an449 : ∀ b', some b' = v440.ownBlock → b' = bb → False := fun b' h1 h2 => (hb444 b' h1).elim (fun e => (fun (b' : Nat) (h1 : some b' = vc.ownBlock) (h2 : b' = bb) => by have q := (h.hc.blk b' h1).1.2; have q2 := h.lb; subst h2; omega) b' e h2) (fun e => by have := hb438.lt; subst h2; omega)
        have ch450 := But.thru2 ch429 hx442 (fun x e => ((fun x (q : some x = vc.ownBlock) => (.inl q : some x = vc.ownBlock ∨ H.bd ≤ x)) x e).imp (fun q => .inr (.inr q)) id)
        have q451 := Nat.le_trans q430 hx442.bd
        have q452 := Nat.le_trans q431 hx442.bd
        have q453 := Nat.le_trans q432 hx442.bd
        have q455 := Nat.le_trans X433.bd hx442.bd
        have q457 := Nat.le_trans X434.bd hx442.bd
        have ho458 := ho435.but hx442 (fun b h1 _ h2 => d377 b h1.2 h2) (fun b hb => (ho436.blk b hb).2.2)
        have hb459 := hb438.but hx442 (fun e => (fun (b' : Nat) (h1 : some b' = vc.ownBlock) (h2 : b' = bb) => by have q := (h.hc.blk b' h1).1.2; have q2 := h.lb; subst h2; omega) _ e rfl)
        refine AL.val rfl (.inl rfl) (HV.nc rfl) ?_
        refine AL.val rfl (.inl rfl) (HV.fa fl82_2 rfl) ?_
        refine AL.w0 (.inl rfl) (WV.st rfl rfl va45 (sl_size ho445.rd.isSl) hb459 (Nat.le_of_ble_eq_true rfl) (sl_one ho445.rd.isSl)) ?_
        rintro _ H460 ⟨hx461, hb462⟩
        rw [sl_cells ho445.rd.isSl] at hb462
        have ch463 := But.trans ch450 (But.mono hx461 (fun x e => .inl e))
        have q464 := Nat.le_trans q451 hx461.bd
        have q465 := Nat.le_trans q452 hx461.bd
        have q466 := Nat.le_trans q453 hx461.bd
        have q467 := Nat.le_trans q455 hx461.bd
        have q468 := Nat.le_trans q457 hx461.bd
        have ho469 := ho458.but hx461 (fun b hb _ e => an379 b hb.2 e) (fun z_ hz_ => by rw [hz_]; exact hb459.w)
        have ho470 := ho445.but hx461 (fun b hb _ e => an449 b hb.2 e) (fun z_ hz_ => by rw [hz_]; exact hb459.w)
        have hb471 : At W H460 bb ⟨82, [.int .i64 n, v370, v440], 3⟩ := hb462
        refine AL.nx ?_
        refine AW.seq ?_
        refine AW.rs ?_
        refine AL.val rfl (.inl rfl) (HV.mv rfl) ?_
        refine AL.val rfl (.inl rfl) (HV.nc rfl) ?_
        refine AL.val rfl (.inl rfl) (HV.fa fl82_1 rfl) ?_
        refine AL.val rfl (.inl rfl) (HV.ld rfl va45 (at_cell_add hb471 rfl)) ?_
        refine AL.val rfl (.inl rfl) (HV.len Try.underlying45 rfl ho469.rd.isSl) ?_
        refine AL.val rfl (.inl rfl) (HV.sub rfl rfl (by simp; omega)) ?_
        refine AL.val rfl (.inl rfl) (HV.as rfl) ?_
        refine AL.nx ?_
        refine AW.block ?_
        refine AW.loop (σ := Nat × Int × List Value × List Value) (fun ⟨i, q, LL, CC⟩ => [(0, .pointer (some ⟨bb, 0, none⟩)), (1, vw), (2, .int .i64 s), (6, .int .i64 (a : Int)), (9, .int .i64 q)]) (fun ⟨i, q, LL, CC⟩ H' => At W H' bb ⟨82, [.int .i64 n, v370, v440], 3⟩ ∧ B0.bd ≤ H'.bd ∧ a ≤ i ∧ i ≤ st.length ∧ q = (i : Int) ∧ ShiftL lv a i LL ∧ ShiftL cv a i CC ∧ OwnK kV 22 W H' (fun x => B0.bd ≤ x ∧ some x = v370.ownBlock) v370 LL ∧ OwnK kV 22 W H' (fun x => B0.bd ≤ x ∧ some x = v440.ownBlock) v440 CC ∧ But (fun x => x = bb ∨ some x = vl.ownBlock ∨ some x = vc.ownBlock) H H' ∧ True) (fun ⟨i, q, LL, CC⟩ => i) (st.length, ((lv ++ [vw]).length : Int) - 1, (lv ++ [vw]), (cv ++ [v404])) ⟨hb471, q464, by omega, Nat.le_refl _, by simp; have := h.ll; omega, h.ll ▸ ShiftL.start, h.lc ▸ ShiftL.start, ho469, ho470, ch463, trivial⟩ ⟨rfl, rfl, rfl, rfl, rfl, trivial⟩ ?_
        rintro ⟨i, q, LL, CC⟩ H472 ⟨hb473, q474, hai, hil, hq, hSL, hSC, hoL2, hoC2, hch, _⟩
        have hLl := hSL.len
        have hCl := hSC.len
        rw [h.ll] at hLl
        rw [h.lc] at hCl
        refine AW.seq ?_
        refine AW.rs ?_
        refine AL.val rfl (.inl rfl) (HV.mv rfl) ?_
        refine AL.val rfl (.inl rfl) (HV.mv rfl) ?_
        refine AL.val rfl (.inl rfl) (HV.gti rfl rfl) ?_
        refine AL.nx ?_
        refine AW.ifd rfl (fun c475 => ?_) (fun c475 => ?_)
        · -- then
          refine AW.skip ?_
          refine nrm_and ?_
          refine AW.seq ?_
          refine AW.block ?_
          refine AW.seq ?_
          refine AW.draw' [0, 1, 3, 7, 0, 0, 32, 96, 224, 0, 512, 2016, 4064, 8191, 16383] mixed (by rfl) ?_
          refine Dr.read 0 _ 84 _ rfl rfl rfl rfl rfl (RV.of (by intro _ _ h; cases h) (.inl rfl) (fun _ xd => HV.mv rfl)) ?_
          refine Dr.read 1 _ 85 _ rfl rfl rfl rfl rfl (RV.of (by intro _ _ h; cases h) (.inl rfl) (fun _ xd => HV.nc rfl)) ?_
          refine Dr.read 2 _ 86 _ rfl rfl rfl rfl rfl (RV.of (by intro _ _ h; cases h) (.inl rfl) (fun _ xd => HV.fa fl82_1 rfl)) ?_
          refine Dr.read 3 _ 87 _ rfl rfl rfl rfl rfl (RV.of (by intro _ _ h; cases h) (.inl rfl) (fun _ xd => HV.ld rfl va45 (rdc_ext xd (at_cell_add hb473 rfl)))) ?_
          refine Dr.read 4 _ 88 _ rfl rfl rfl rfl rfl (RV.of (by intro _ _ h; cases h) (.inl rfl) (fun _ xd => HV.mv rfl)) ?_
          refine Dr.read 5 _ 89 _ rfl rfl rfl rfl rfl (RV.of (by intro _ _ h; cases h) (.inl rfl) (fun _ xd => HV.mv rfl)) ?_
          refine Dr.read 6 _ 90 _ rfl rfl rfl rfl rfl (RV.of (by intro _ _ h; cases h) (.inl rfl) (fun _ xd => HV.nc rfl)) ?_
          refine Dr.read 7 _ 91 _ rfl rfl rfl rfl rfl (RV.of (by intro _ _ h; cases h) (.inl rfl) (fun _ xd => HV.fa fl82_1 rfl)) ?_
          refine Dr.read 8 _ 92 _ rfl rfl rfl rfl rfl (RV.of (by intro _ _ h; cases h) (.inl rfl) (fun _ xd => HV.ld rfl va45 (rdc_ext xd (at_cell_add hb473 rfl)))) ?_
          refine Dr.read 9 _ 93 _ rfl rfl rfl rfl rfl (RV.of (by intro _ _ h; cases h) (.inl rfl) (fun _ xd => HV.mv rfl)) ?_
          refine Dr.read 10 _ 94 _ rfl rfl rfl rfl rfl (RV.of (by intro _ _ h; cases h) (.inl rfl) (fun _ xd => HV.sub rfl rfl (by omega))) ?_
          obtain ⟨g476, z477, cs478, hz479, hK480, hC481, hg482, hP483⟩ := OwnK.ix (q := q - 1) hoL2 sl45 (by omega) (by omega)
          have X484 := Ext.refl H472
          obtain ⟨rfl, n486, isl485⟩ : cs478 = [z477] ∧ ∃ n, IsSl z477 n := hK480
          refine Dr.read 11 _ 95 _ rfl rfl rfl rfl rfl (RV.of (by intro _ _ h; cases h) (.inl rfl) (fun _ xd => hP483 rfl rfl)) ?_
          refine Dr.read 12 _ 96 _ rfl rfl rfl rfl rfl (RV.of (by intro _ _ h; cases h) (.inl rfl) (fun _ xd => HV.ld rfl va22 (rdc_ext xd (cells_first hC481 rfl)))) ?_
          obtain ⟨g487, z488, cs489, hz490, hK491, hC492, hg493, hP494⟩ := OwnK.ix (q := q) hoL2 sl45 (by omega) (by omega)
          obtain ⟨rfl, n496, isl495⟩ : cs489 = [z488] ∧ ∃ n, IsSl z488 n := hK491
          refine Dr.read 13 _ 97 _ rfl rfl rfl rfl rfl (RV.of (by intro _ _ h; cases h) (.inl rfl) (fun _ xd => hP494 rfl rfl)) ?_
          refine Dr.eff 14 _ _ rfl (by intro d h; cases h) rfl rfl rfl (EC.of (by intro _ _ h; cases h) (.inl rfl) (WV.stK (okx := fun _ => False) (x' := z477) hoL2 hg493 rfl rfl va22 (by first | omega | (rw [List.length_replicate]; omega) | (have := hccl.1; simp only at this; omega)) ⟨sl_cells isl485, _, isl485⟩ (fun _ h => h.elim))) (fun v H' h => .inr (.inl rfl)) ?_
          rintro _ H497 ⟨hx498, ho499⟩
          have ch500 := But.thru2 hch hx498 (fun x e => (lb378 x e).imp (fun q => .inr (.inl q)) id)
          have q501 := Nat.le_trans q474 hx498.bd
          have q503 := Nat.le_trans X484.bd hx498.bd
          have ho504 := hoC2.but hx498 (fun b h1 _ h2 => d447 b h1.2 h2) (fun b hb => (hoL2.blk b hb).2.2)
          have hb505 := hb473.but hx498 (fun e => an379 _ e rfl)
          have ho506 := ho499.okk (ok' := fun x => B0.bd ≤ x ∧ some x = v370.ownBlock) (fun b hb _ => hb.elim id False.elim)
          refine Dr.fin rfl ?_
          refine nrm_and ?_
          refine AW.draw' [0, 1, 3, 7, 0, 0, 32, 96, 224, 0, 512, 2016, 4064, 8191, 16383] mixed (by rfl) ?_
          refine Dr.read 0 _ 98 _ rfl rfl rfl rfl rfl (RV.of (by intro _ _ h; cases h) (.inl rfl) (fun _ xd => HV.mv rfl)) ?_
          refine Dr.read 1 _ 99 _ rfl rfl rfl rfl rfl (RV.of (by intro _ _ h; cases h) (.inl rfl) (fun _ xd => HV.nc rfl)) ?_
          refine Dr.read 2 _ 100 _ rfl rfl rfl rfl rfl (RV.of (by intro _ _ h; cases h) (.inl rfl) (fun _ xd => HV.fa fl82_2 rfl)) ?_
          refine Dr.read 3 _ 101 _ rfl rfl rfl rfl rfl (RV.of (by intro _ _ h; cases h) (.inl rfl) (fun _ xd => HV.ld rfl va45 (rdc_ext xd (at_cell_add hb505 rfl)))) ?_
          refine Dr.read 4 _ 102 _ rfl rfl rfl rfl rfl (RV.of (by intro _ _ h; cases h) (.inl rfl) (fun _ xd => HV.mv rfl)) ?_
          refine Dr.read 5 _ 103 _ rfl rfl rfl rfl rfl (RV.of (by intro _ _ h; cases h) (.inl rfl) (fun _ xd => HV.mv rfl)) ?_
          refine Dr.read 6 _ 104 _ rfl rfl rfl rfl rfl (RV.of (by intro _ _ h; cases h) (.inl rfl) (fun _ xd => HV.nc rfl)) ?_
          refine Dr.read 7 _ 105 _ rfl rfl rfl rfl rfl (RV.of (by intro _ _ h; cases h) (.inl rfl) (fun _ xd => HV.fa fl82_2 rfl)) ?_
          refine Dr.read 8 _ 106 _ rfl rfl rfl rfl rfl (RV.of (by intro _ _ h; cases h) (.inl rfl) (fun _ xd => HV.ld rfl va45 (rdc_ext xd (at_cell_add hb505 rfl)))) ?_
          refine Dr.read 9 _ 107 _ rfl rfl rfl rfl rfl (RV.of (by intro _ _ h; cases h) (.inl rfl) (fun _ xd => HV.mv rfl)) ?_
          refine Dr.read 10 _ 108 _ rfl rfl rfl rfl rfl (RV.of (by intro _ _ h; cases h) (.inl rfl) (fun _ xd => HV.sub rfl rfl (by omega))) ?_
          obtain ⟨g507, z508, cs509, hz510, hK511, hC512, hg513, hP514⟩ := OwnK.ix (q := q - 1) ho504 sl45 (by omega) (by omega)
          have X515 := Ext.refl H497
          obtain ⟨rfl, n517, isl516⟩ : cs509 = [z508] ∧ ∃ n, IsSl z508 n := hK511
          refine Dr.read 11 _ 109 _ rfl rfl rfl rfl rfl (RV.of (by intro _ _ h; cases h) (.inl rfl) (fun _ xd => hP514 rfl rfl)) ?_
          refine Dr.read 12 _ 110 _ rfl rfl rfl rfl rfl (RV.of (by intro _ _ h; cases h) (.inl rfl) (fun _ xd => HV.ld rfl va22 (rdc_ext xd (cells_first hC512 rfl)))) ?_
          obtain ⟨g518, z519, cs520, hz521, hK522, hC523, hg524, hP525⟩ := OwnK.ix (q := q) ho504 sl45 (by omega) (by omega)
          obtain ⟨rfl, n527, isl526⟩ : cs520 = [z519] ∧ ∃ n, IsSl z519 n := hK522
          refine Dr.read 13 _ 111 _ rfl rfl rfl rfl rfl (RV.of (by intro _ _ h; cases h) (.inl rfl) (fun _ xd => hP525 rfl rfl)) ?_
          refine Dr.eff 14 _ _ rfl (by intro d h; cases h) rfl rfl rfl (EC.of (by intro _ _ h; cases h) (.inl rfl) (WV.stK (okx := fun _ => False) (x' := z508) ho504 hg524 rfl rfl va22 (by first | omega | (rw [List.length_replicate]; omega) | (have := hccl.1; simp only at this; omega)) ⟨sl_cells isl516, _, isl516⟩ (fun _ h => h.elim))) (fun v H' h => .inr (.inl rfl)) ?_
          rintro _ H528 ⟨hx529, ho530⟩
          have ch531 := But.thru2 ch500 hx529 (fun x e => (lb448 x e).imp (fun q => .inr (.inr q)) id)
          have q532 := Nat.le_trans q501 hx529.bd
          have q533 := Nat.le_trans q503 hx529.bd
          have q535 := Nat.le_trans X515.bd hx529.bd
          have ho536 := ho506.but hx529 (fun b h1 _ h2 => d446 b h1.2 h2) (fun b hb => (ho504.blk b hb).2.2)
          have hb537 := hb505.but hx529 (fun e => an449 _ e rfl)
          have ho538 := ho530.okk (ok' := fun x => B0.bd ≤ x ∧ some x = v440.ownBlock) (fun b hb _ => hb.elim id False.elim)
          refine Dr.fin rfl ?_
          refine nrm_blk (nrm_and ?_)
          refine AW.reg ?_
          refine AL.val rfl (.inl rfl) (HV.mv rfl) ?_
          refine AL.val rfl (.inl rfl) (HV.sub rfl rfl (by omega)) ?_
          refine AL.val rfl (.inl rfl) (HV.as rfl) ?_
          refine AL.nil ?_
          refine nrm_and ?_
          exact ⟨(i - 1, q - 1, (LL.set (q : Int).toNat z477), (CC.set (q : Int).toNat z508)), ⟨hb537, q532, by omega, by omega, by omega, by rw [show (q : Int).toNat = i by omega]; exact hSL.step (by omega) (by have q1 := h.ll; have q2 := h.lc; omega) (by have q3 := hz479; rwa [show ((q - 1 : Int)).toNat = i - 1 by omega] at q3), by rw [show (q : Int).toNat = i by omega]; exact hSC.step (by omega) (by have q1 := h.ll; have q2 := h.lc; omega) (by have q3 := hz510; rwa [show ((q - 1 : Int)).toNat = i - 1 by omega] at q3), ho536, ho538, ch531, trivial⟩, by first | omega | (dsimp only; omega), ⟨rfl, rfl, rfl, rfl, rfl, trivial⟩⟩
        · -- else
          refine AW.exit ?_
          refine ex_and (ex_and (ex_blk ?_))
          refine nrm_and ?_
          refine AW.rs ?_
          refine AL.val rfl (.inl rfl) (HV.mv rfl) ?_
          refine AL.val rfl (.inl rfl) (HV.nc rfl) ?_
          refine AL.val rfl (.inl rfl) (HV.fa fl82_1 rfl) ?_
          refine AL.val rfl (.inl rfl) (HV.ld rfl va45 (at_cell_add hb473 rfl)) ?_
          refine AL.val rfl (.inl rfl) (HV.mv rfl) ?_
          refine AL.val rfl (.inl rfl) (HV.mv rfl) ?_
          obtain ⟨g539, z540, cs541, hz542, hK543, hC544, hg545, hP546⟩ := OwnK.ix (q := (a : Int)) hoL2 sl45 (by omega) (by omega)
          have X547 := Ext.refl H472
          obtain ⟨rfl, n549, isl548⟩ : cs541 = [z540] ∧ ∃ n, IsSl z540 n := hK543
          refine AL.val rfl (.inl rfl) (hP546 rfl rfl) ?_
          refine AL.w0 (.inl rfl) (WV.stK (okx := fun _ => False) (x' := vw) hoL2 hg545 rfl rfl va22 (by first | omega | (rw [List.length_replicate]; omega) | (have := hccl.1; simp only at this; omega)) ⟨sl_cells hv.isSl, _, hv.isSl⟩ (fun _ h => h.elim)) ?_
          rintro _ H550 ⟨hx551, ho552⟩
          have ch554 := But.thru2 hch hx551 (fun x e => (lb378 x e).imp (fun q => .inr (.inl q)) id)
          have q555 := Nat.le_trans q474 hx551.bd
          have q556 := Nat.le_trans hch.bd hx551.bd
          have q558 := Nat.le_trans X547.bd hx551.bd
          have ho559 := hoC2.but hx551 (fun b h1 _ h2 => d447 b h1.2 h2) (fun b hb => (hoL2.blk b hb).2.2)
          have hb560 := hb473.but hx551 (fun e => an379 _ e rfl)
          have ho553 := ho552.okk (ok' := fun x => B0.bd ≤ x ∧ some x = v370.ownBlock) (fun b hb _ => hb.elim id False.elim)
          refine AL.nx ?_
          refine AW.draw' [0, 1, 3, 7, 0, 0, 32, 96, 224, 480, 1023, 2047] mixed (by rfl) ?_
          refine Dr.read 0 _ 119 _ rfl rfl rfl rfl rfl (RV.of (by intro _ _ h; cases h) (.inl rfl) (fun _ xd => HV.mv rfl)) ?_
          refine Dr.read 1 _ 120 _ rfl rfl rfl rfl rfl (RV.of (by intro _ _ h; cases h) (.inl rfl) (fun _ xd => HV.nc rfl)) ?_
          refine Dr.read 2 _ 121 _ rfl rfl rfl rfl rfl (RV.of (by intro _ _ h; cases h) (.inl rfl) (fun _ xd => HV.fa fl82_2 rfl)) ?_
          refine Dr.read 3 _ 122 _ rfl rfl rfl rfl rfl (RV.of (by intro _ _ h; cases h) (.inl rfl) (fun _ xd => HV.ld rfl va45 (rdc_ext xd (at_cell_add hb560 rfl)))) ?_
          refine Dr.read 4 _ 123 _ rfl rfl rfl rfl rfl (RV.of (by intro _ _ h; cases h) (.inl rfl) (fun _ xd => HV.mv rfl)) ?_
          refine Dr.read 5 _ 124 _ rfl rfl rfl rfl rfl (RV.of (by intro _ _ h; cases h) (.inl rfl) (fun _ xd => HV.mv rfl)) ?_
          refine Dr.read 6 _ 125 _ rfl rfl rfl rfl rfl (RV.of (by intro _ _ h; cases h) (.inl rfl) (fun _ xd => HV.nc rfl)) ?_
          refine Dr.read 7 _ 126 _ rfl rfl rfl rfl rfl (RV.of (by intro _ _ h; cases h) (.inl rfl) (fun _ xd => HV.fa fl82_0 rfl)) ?_
          refine Dr.read 8 _ 127 _ rfl rfl rfl rfl rfl (RV.of (by intro _ _ h; cases h) (.inl rfl) (fun _ xd => HV.ld rfl va2 (rdc_ext xd (at_cell hb560 rfl)))) ?_
          have X561 := Ext.refl H550
          have y562 := hb560.lt
          have o563 := X561.bd
          have a564 := ho553.ltb
          have a565 := ho559.ltb
          refine Dr.eff 9 _ _ rfl (by intro d h; cases h; exact ⟨rfl, rfl⟩) rfl rfl rfl (EC.of (by intro _ _ h; cases h) (.inl rfl) (WV.mkK (K := kI) (0 : Int) (fun _ _ _ => rfl) sl22 rfl rfl rfl (by omega) (by omega) (by omega))) (fun v H' h => .inl (h.1)) ?_
          rintro v566 H567 ⟨hx568, ho569⟩
          have ch570 := But.trans ch554 (Ext.but hx568 _)
          have q571 := Nat.le_trans q555 hx568.bd
          have q572 := Nat.le_trans q556 hx568.bd
          have q573 := Nat.le_trans q558 hx568.bd
          have X574 := Ext.trans X561 hx568
          have ho575 := ho553.ext hx568
          have ho576 := ho559.ext hx568
          have hb577 := hb560.ext hx568
          obtain ⟨g579, z580, cs581, hz582, hK583, hC584, hg585, hP586⟩ := OwnK.ix (q := (a : Int)) ho576 sl45 (by omega) (by omega)
          have X587 := Ext.refl H567
          obtain ⟨rfl, n589, isl588⟩ : cs581 = [z580] ∧ ∃ n, IsSl z580 n := hK583
          refine Dr.read 10 _ 129 _ rfl rfl rfl rfl rfl (RV.of (by intro _ _ h; cases h) (.inl rfl) (fun _ xd => hP586 rfl rfl)) ?_
          refine Dr.eff 11 _ _ rfl (by intro d h; cases h) rfl rfl rfl (EC.of (by intro _ _ h; cases h) (.inl rfl) (WV.stK (okx := fun _ => False) (x' := v566) ho576 hg585 rfl rfl va22 (by first | omega | (rw [List.length_replicate]; omega) | (have := hccl.1; simp only at this; omega)) ⟨sl_cells ho569.rd.isSl, _, ho569.rd.isSl⟩ (fun _ h => h.elim))) (fun v H' h => .inr (.inl rfl)) ?_
          rintro _ H590 ⟨hx591, ho592⟩
          have ch594 := But.thru2 ch570 hx591 (fun x e => (lb448 x e).imp (fun q => .inr (.inr q)) id)
          have q595 := Nat.le_trans q571 hx591.bd
          have q596 := Nat.le_trans q572 hx591.bd
          have q597 := Nat.le_trans q573 hx591.bd
          have q599 := Nat.le_trans X574.bd hx591.bd
          have q601 := Nat.le_trans X587.bd hx591.bd
          have ho602 := ho575.but hx591 (fun b h1 _ h2 => d446 b h1.2 h2) (fun b hb => (ho576.blk b hb).2.2)
          have ho603 := ho569.but hx591 (fun b hb _ e => Nat.lt_irrefl _ (Nat.lt_of_lt_of_le (a565 b e) hb)) (fun b hb => (ho576.blk b hb).2.2)
          have hb604 := hb577.but hx591 (fun e => an449 _ e rfl)
          have ho593 := ho592.okk (ok' := fun x => B0.bd ≤ x ∧ some x = v440.ownBlock) (fun b hb _ => hb.elim id False.elim)
          refine Dr.fin rfl ?_
          refine nrm_and ?_
          refine AW.reg ?_
          refine AL.val rfl (.inl rfl) (HV.mv rfl) ?_
          refine AL.val rfl (.inl rfl) (HV.nc rfl) ?_
          refine AL.val rfl (.inl rfl) (HV.fa fl82_2 rfl) ?_
          refine AL.val rfl (.inl rfl) (HV.ld rfl va45 (at_cell_add hb604 rfl)) ?_
          refine AL.val rfl (.inl rfl) (HV.mv rfl) ?_
          obtain ⟨g605, z606, cs607, hz608, hK609, hC610, hg611, hP612⟩ := OwnK.ix (q := (a : Int)) ho593 sl45 (by omega) (by first | omega | (rw [List.length_set]; omega))
          have X613 := Ext.refl H590
          obtain ⟨rfl, n615, isl614⟩ : cs607 = [z606] ∧ ∃ n, IsSl z606 n := hK609
          refine AL.val rfl (.inl rfl) (hP612 rfl rfl) ?_
          have e616 : v566 = z606 := by have q := hz608; rw [Int.toNat_natCast, List.getElem?_set_self (by have := hSC.len; rw [h.lc] at this; omega)] at q; exact Option.some.inj q
          subst e616
          refine AL.val rfl (.inl rfl) (HV.ld rfl va22 (cells_first hC610 rfl)) ?_
          refine AL.val rfl (.inl rfl) (HV.mv rfl) ?_
          obtain ⟨g617, z618, cs619, hz620, hK621, hC622, hg623, hP624⟩ := OwnK.ix (q := s) ho603 sl22 hsn.1 (by first | (have := hccl.1; simp only at this; omega) | (rw [List.length_replicate]; omega))
          obtain rfl : cs619 = [.int .i64 z618] := hK621
          refine AL.val rfl (.inl rfl) (hP624 rfl rfl) ?_
          refine AL.val rfl (.inl rfl) (HV.ld rfl va2 (cells_first hC622 rfl)) ?_
          refine AL.val rfl (.inl rfl) (HV.add rfl rfl (by have q := List.mem_of_getElem? hz620; first | (have q2 := hccl.2 _ q; omega) | (have q2 := (List.mem_replicate.1 q).2; omega))) ?_
          obtain ⟨g625, z626, cs627, hz628, hK629, hC630, hg631, hP632⟩ := OwnK.ix (q := s) ho603 sl22 hsn.1 (by first | (have := hccl.1; simp only at this; omega) | (rw [List.length_replicate]; omega))
          obtain rfl : cs627 = [.int .i64 z626] := hK629
          refine AL.val rfl (.inl rfl) (hP632 rfl rfl) ?_
          refine AL.w0 (.inl rfl) (WV.stK (okx := fun _ => False) (x' := z618 + 1) ho603 hg631 rfl rfl va2 (by first | omega | (rw [List.length_replicate]; omega) | (have := hccl.1; simp only at this; omega)) rfl (fun _ h => h.elim)) ?_
          rintro _ H633 ⟨hx634, ho635⟩
          have ch636 := But.thru ch594 hx634 (fun b hb => Nat.le_trans q556 (ho603.blk b hb).1)
          have q637 := Nat.le_trans q595 hx634.bd
          have q638 := Nat.le_trans q596 hx634.bd
          have q639 := Nat.le_trans q597 hx634.bd
          have q640 := Nat.le_trans q599 hx634.bd
          have q641 := Nat.le_trans q601 hx634.bd
          have q643 := Nat.le_trans X613.bd hx634.bd
          have ho644 := ho602.but hx634 (fun b hb _ e => by have h1 := a564 b hb.2; have h2 : H550.bd ≤ b := (ho603.blk b e).1; omega) (fun b hb => (ho603.blk b hb).2.2)
          have ho645 := ho593.but hx634 (fun b hb _ e => by have h1 := a565 b hb.2; have h2 : H550.bd ≤ b := (ho603.blk b e).1; omega) (fun b hb => (ho603.blk b hb).2.2)
          have hb646 := hb604.but hx634 (fun e => by have q : H550.bd ≤ _ := (ho603.blk _ e).1; omega)
          have ho647 := ho635.okk (ok' := fun b => H550.bd ≤ b) (fun b hb _ => hb.elim id False.elim)
          refine AL.nil ?_
          refine post_none rfl ?_ (.inl rfl)
          have hno : ¬ hasV st g := (fun hh => by have q := hasV_iff.1 hh; rw [hp] at q; have e9 : (st.getD a ([], [])).1 = z329 := fst_gd (st := st) (j := a) hz331 rfl; rw [e9] at q; have q9 : ¬ z329 = g := (by simpa using c342); exact q9 q.2); have hle : a ≤ st.length := (by omega); have e := addV_of (n := n) (st := st) (v := g) (s := s) (q := (a : Int)) (x := (g, List.replicate n.toNat (0 : Int))) (by rw [hp]) (by rw [putV_new hno, Int.toNat_natCast, hp, insL_get hle, if_neg (Nat.lt_irrefl _), if_pos rfl]) rfl hz620; rw [putV_new hno, Int.toNat_natCast, hp, insL_set hle] at e; have hia : i = a := (by omega); rw [hia] at hSL hSC; have hL9 := ho644; have hC9 := ho645; rw [Int.toNat_natCast, hSL.done (by rw [h.ll]; omega)] at hL9; rw [Int.toNat_natCast, hSC.done (by rw [h.lc]; omega)] at hC9; obtain ⟨lab', q9⟩ := h.new hB hle ch636 hb646 hL9 hC9 hv ho647 lb378 lb448 (fun x q => Nat.le_trans q556 (ho647.blk x q).1) d446 (fun x h1 h2 => by have q1 := a564 x h2; have q2 := (ho647.blk x h1).1; omega) (fun x h1 h2 => by have q1 := a565 x h2; have q2 := (ho647.blk x h1).1; omega); exact ⟨⟨lab', _, _, _, _, by rw [← e]; exact q9⟩, ch636.mono (fun x hx => by rcases hx with rfl | hx | hx; (exact h.bB); (exact (h.hl.blk x hx).1.1); (exact (h.hc.blk x hx).1.1))⟩
      · -- else
        refine AW.skip ?_
        refine nrm_and ?_
        refine AW.reg ?_
        have hoL648 := (h.hl.ext X340).narrow (ok' := fun x => B0.bd ≤ x ∧ some x = vl.ownBlock) kV_flat (fun x q => ⟨(h.hl.blk x q).1.1, q⟩)
        have hoC649 := (h.hc.ext X340).narrow (ok' := fun x => B0.bd ≤ x ∧ some x = vc.ownBlock) kV_flat (fun x q => ⟨(h.hc.blk x q).1.1, q⟩)
        have ch650 : But (fun x => x = bb ∨ some x = vl.ownBlock ∨ some x = vc.ownBlock) H H338 := Ext.but X340 _
        have qB651 := Nat.le_trans hB X340.bd
        have qH652 := X340.bd
        have d653 : ∀ x, some x = vl.ownBlock → some x = vc.ownBlock → False := fun x h1 h2 => by have q1 := (h.hl.blk x h1).1.2; have q2 := (h.hc.blk x h2).1.2; omega
        have d654 : ∀ x, some x = vc.ownBlock → some x = vl.ownBlock → False := fun x h1 h2 => d653 x h2 h1
        refine AL.val rfl (.inl rfl) (HV.mv rfl) ?_
        refine AL.val rfl (.inl rfl) (HV.nc rfl) ?_
        refine AL.val rfl (.inl rfl) (HV.fa fl82_2 rfl) ?_
        refine AL.val rfl (.inl rfl) (HV.ld rfl va45 (at_cell_add hb341 rfl)) ?_
        refine AL.val rfl (.inl rfl) (HV.mv rfl) ?_
        obtain ⟨g655, z656, cs657, hz658, hK659, hC660, hg661, hP662⟩ := OwnK.ix (q := (a : Int)) hoC649 sl45 (by omega) (by first | omega | (rw [List.length_set]; omega))
        have X663 := Ext.refl H338
        obtain ⟨rfl, n665, isl664⟩ : cs657 = [z656] ∧ ∃ n, IsSl z656 n := hK659
        refine AL.val rfl (.inl rfl) (hP662 rfl rfl) ?_
        obtain ⟨cc, hst⟩ := hasV_of (st := st) (g := g) hp (by omega) (fst_gd (st := st) (j := a) hz331 rfl : (st.getD a ([], [])).1 = z329) (by simpa using c342)
        have hzc : cv[a]? = some z656 := by have q := hz658; rwa [Int.toNat_natCast] at q
        have hR666 := (h.rc a z656 (g, cc) hzc hst).ext X340
        have hccl := hcc _ (List.mem_of_getElem? hst)
        refine AL.val rfl (.inl rfl) (HV.ld rfl va22 (cells_first hC660 rfl)) ?_
        refine AL.val rfl (.inl rfl) (HV.mv rfl) ?_
        obtain ⟨g667, z668, cs669, hz670, hK671, hC672, hg673, hP674⟩ := OwnK.ix (q := s) hR666 sl22 hsn.1 (by first | (have := hccl.1; simp only at this; omega) | (rw [List.length_replicate]; omega))
        obtain rfl : cs669 = [.int .i64 z668] := hK671
        refine AL.val rfl (.inl rfl) (hP674 rfl rfl) ?_
        refine AL.val rfl (.inl rfl) (HV.ld rfl va2 (cells_first hC672 rfl)) ?_
        refine AL.val rfl (.inl rfl) (HV.add rfl rfl (by have q := List.mem_of_getElem? hz670; first | (have q2 := hccl.2 _ q; omega) | (have q2 := (List.mem_replicate.1 q).2; omega))) ?_
        obtain ⟨g675, z676, cs677, hz678, hK679, hC680, hg681, hP682⟩ := OwnK.ix (q := s) hR666 sl22 hsn.1 (by first | (have := hccl.1; simp only at this; omega) | (rw [List.length_replicate]; omega))
        obtain rfl : cs677 = [.int .i64 z676] := hK679
        refine AL.val rfl (.inl rfl) (hP682 rfl rfl) ?_
        refine AL.w0 (.inl rfl) (WV.stK (okx := fun _ => False) (x' := z668 + 1) hR666 hg681 rfl rfl va2 (by first | omega | (rw [List.length_replicate]; omega) | (have := hccl.1; simp only at this; omega)) rfl (fun _ h => h.elim)) ?_
        rintro _ H683 ⟨hx684, ho685⟩
        have q686 := Nat.le_trans qB651 hx684.bd
        have q687 := Nat.le_trans qH652 hx684.bd
        have q689 := Nat.le_trans X340.bd hx684.bd
        have q691 := Nat.le_trans X663.bd hx684.bd
        have ho692 := ho685.okk (ok' := fun b => B0.bd ≤ b ∧ lab b = 4 + a) (fun b hb _ => hb.elim id False.elim)
        refine AL.nil ?_
        refine post_none rfl ?_ (.inl rfl)
        exact ⟨⟨lab, vl, vc, lv, cv, by have e := addV_of (n := n) (st := st) (v := g) (s := s) (q := (a : Int)) (x := (g, cc)) (by rw [hp]) (by rw [putV_has ⟨cc, by rw [hp]; exact hst⟩, Int.toNat_natCast]; exact hst) rfl hz670; rw [putV_has ⟨cc, by rw [hp]; exact hst⟩, Int.toNat_natCast] at e; rw [← e]; exact h.inc X340 hzc hst hx684 ho692⟩, (Ext.but X340 _).trans (But.mono hx684 (fun y q => ((h.rc a z656 (g, cc) hzc hst).blk y q).1.1))⟩

set_option maxRecDepth 100000 in
theorem see_ok {vs v : Value} {s : List Int} {l : List (Int × List Int)} {oks ok : Nat → Prop} {n : Int} {b : Nat} (hs : RdK kI W H oks vs s) (hr : RdK (kP kI (kR kI)) W H ok v l) (hb : At W H b ⟨30, [.int .i64 n, vs, v], 3⟩) {vg : Value} {g : List Int} {okg : Nat → Prop} (hgr : RdK kI W H okg vg g) (hok : okT n s l) (hgr_ : Ris 0 ((s.length : Int) - 1) g) : ACalls Try.prog W 55 #[.pointer (some ⟨b, 0, none⟩), vg] H (fun r H' => (∃ bx lab vl vc lv cv, r = .pointer (some ⟨bx, 0, none⟩) ∧ LV W H' H 82 22 bx n (seeV n g l l.length) lab vl vc lv cv) ∧ Ext H H') := by
  refine ACalls.of (args := [.pointer (some ⟨b, 0, none⟩), vg]) Try.func55 rfl rfl ?_
  have X0 := Ext.refl H
  have hm1 := hgr.max
  have hs7 := hok.1.2.1
  have hg7 := ris_len hs7 hgr_
  have hin := grp_in hgr_
  have hn1 := hok.1.1
  have hl7 := hok.1.2.2.1
  have hblt := hb.lt
  have hmL := hr.max
  refine AW.rs ?_
  refine AL.val rfl (.inl rfl) (HV.as rfl) ?_
  refine AL.nx ?_
  refine AW.rs ?_
  refine AL.val rfl (.inl rfl) (HV.mv rfl) ?_
  refine AL.val rfl (.inl rfl) (HV.nc rfl) ?_
  refine AL.val rfl (.inl rfl) (HV.fa fl30_0 rfl) ?_
  refine AL.val rfl (.inl rfl) (HV.ld rfl va2 (at_cell hb rfl)) ?_
  refine AL.val rfl (.inl rfl) (HV.bd rfl (bd82_0 n)) ?_
  refine AL.w rfl (.inl rfl) (WV.bx rfl rfl) ?_
  rintro _ H3 ⟨b2, rfl, hx4, hn5, hb6⟩
  have o7 := Nat.le_trans X0.bd hn5
  have ne8 : b ≠ b2 := by have := hb.lt; omega
  have X9 := Ext.trans X0 hx4
  have hb10 := hb.ext hx4
  have X11 := Ext.refl H3
  refine AL.val rfl (.inl rfl) (HV.as rfl) ?_
  refine AL.nx ?_
  refine AW.seq ?_
  refine AW.rs ?_
  refine AL.val rfl (.inl rfl) (HV.as rfl) ?_
  refine AL.nx ?_
  refine AW.block ?_
  have hLV : (∃ lab vl vc lv cv, LV W H3 H 82 22 b2 n (seeV n g l 0) lab vl vc lv cv) := ⟨fun _ => 0, _, _, [], [], ⟨hb6, o7, rfl, OwnK.nil _, OwnK.nil _, rfl, rfl, (fun j v x h1 _ => by simp at h1), (fun j v x h1 _ => by simp at h1)⟩⟩
  refine AW.loop (σ := Nat) (fun i => [(0, .pointer (some ⟨b, 0, none⟩)), (1, vg), (4, (.pointer none)), (5, .pointer (some ⟨b2, 0, none⟩)), (6, .int .i64 (i : Int))]) (fun i H' => Ext H H' ∧ At W H' b ⟨30, [.int .i64 n, vs, v], 3⟩ ∧ i ≤ l.length ∧ (∃ lab vl vc lv cv, LV W H' H 82 22 b2 n (seeV n g l i) lab vl vc lv cv) ∧ True) (fun i => l.length - i) 0 ⟨X9, hb10, Nat.zero_le _, hLV, trivial⟩ ⟨rfl, rfl, rfl, rfl, rfl, trivial⟩ ?_
  rintro i H12 ⟨X13, hb14, hi, hLV, _⟩
  obtain ⟨lab, vl, vc, lv, cv, hLV⟩ := hLV
  have hse := seeV_ok (n := n) (g := g) (l := l) (fun i hi => (hok.1.2.2.2.2 i hi).1) i hi
  have hsl := hse.len
  refine AW.seq ?_
  refine AW.rs ?_
  refine AL.val rfl (.inl rfl) (HV.mv rfl) ?_
  refine AL.val rfl (.inl rfl) (HV.mv rfl) ?_
  refine AL.val rfl (.inl rfl) (HV.nc rfl) ?_
  refine AL.val rfl (.inl rfl) (HV.fa fl30_2 rfl) ?_
  refine AL.val rfl (.inl rfl) (HV.ld rfl va28 (at_cell_add hb14 rfl)) ?_
  refine AL.val rfl (.inl rfl) (HV.len Try.underlying28 rfl hr.isSl) ?_
  refine AL.val rfl (.inl rfl) (HV.lti rfl rfl) ?_
  refine AL.nx ?_
  refine AW.ifd rfl (fun c15 => ?_) (fun c15 => ?_)
  · -- then
    refine AW.skip ?_
    refine nrm_and ?_
    refine AW.seq ?_
    refine AW.block ?_
    refine AW.draw' [0, 0, 2, 6, 14, 0, 62, 0, 254, 0, 512, 1536, 3584, 0, 15872, 32256, 65024, 131071] mixed (by rfl) ?_
    refine Dr.read 0 _ 22 _ rfl rfl rfl rfl rfl (RV.of (by intro _ _ h; cases h) (.inl rfl) (fun _ xd => HV.mv rfl)) ?_
    refine Dr.read 1 _ 23 _ rfl rfl rfl rfl rfl (RV.of (by intro _ _ h; cases h) (.inl rfl) (fun _ xd => HV.mv rfl)) ?_
    refine Dr.read 2 _ 24 _ rfl rfl rfl rfl rfl (RV.of (by intro _ _ h; cases h) (.inl rfl) (fun _ xd => HV.nc rfl)) ?_
    refine Dr.read 3 _ 25 _ rfl rfl rfl rfl rfl (RV.of (by intro _ _ h; cases h) (.inl rfl) (fun _ xd => HV.fa fl30_2 rfl)) ?_
    refine Dr.read 4 _ 26 _ rfl rfl rfl rfl rfl (RV.of (by intro _ _ h; cases h) (.inl rfl) (fun _ xd => HV.ld rfl va28 (rdc_ext xd (at_cell_add hb14 rfl)))) ?_
    refine Dr.read 5 _ 27 _ rfl rfl rfl rfl rfl (RV.of (by intro _ _ h; cases h) (.inl rfl) (fun _ xd => HV.mv rfl)) ?_
    obtain ⟨p16, z17, cs18, hz19, hK20, hC21, hP22⟩ := RdK.ix (q := (i : Int)) hr sl28 (by omega) (by omega)
    obtain ⟨cs23, cs24, rfl, hK25, hK26⟩ := hK20
    obtain rfl : cs23 = [.int .i64 z17.1] := hK25
    obtain ⟨v27, rfl, hr28⟩ := hK26
    have hm29 := hr28.max
    refine Dr.read 6 _ 28 _ rfl rfl rfl rfl rfl (RV.of (by intro _ _ h; cases h) (.inl rfl) (fun _ xd => hP22 rfl rfl)) ?_
    refine Dr.read 7 _ 29 _ rfl rfl rfl rfl rfl (RV.of (by intro _ _ h; cases h) (.inl rfl) (fun _ xd => HV.mv rfl)) ?_
    refine Dr.read 9 _ 31 _ rfl rfl rfl rfl rfl (RV.of (by intro _ _ h; cases h) (.inl rfl) (fun _ xd => HV.mv rfl)) ?_
    refine Dr.read 10 _ 32 _ rfl rfl rfl rfl rfl (RV.of (by intro _ _ h; cases h) (.inl rfl) (fun _ xd => HV.nc rfl)) ?_
    refine Dr.read 11 _ 33 _ rfl rfl rfl rfl rfl (RV.of (by intro _ _ h; cases h) (.inl rfl) (fun _ xd => HV.fa fl30_2 rfl)) ?_
    refine Dr.read 12 _ 34 _ rfl rfl rfl rfl rfl (RV.of (by intro _ _ h; cases h) (.inl rfl) (fun _ xd => HV.ld rfl va28 (rdc_ext xd (at_cell_add hb14 rfl)))) ?_
    refine Dr.read 13 _ 35 _ rfl rfl rfl rfl rfl (RV.of (by intro _ _ h; cases h) (.inl rfl) (fun _ xd => HV.mv rfl)) ?_
    obtain ⟨p30, z31, cs32, hz33, hK34, hC35, hP36⟩ := RdK.ix (q := (i : Int)) hr sl28 (by omega) (by omega)
    obtain ⟨cs37, cs38, rfl, hK39, hK40⟩ := hK34
    obtain rfl : cs37 = [.int .i64 z31.1] := hK39
    obtain ⟨v41, rfl, hr42⟩ := hK40
    have hm43 := hr42.max
    refine Dr.read 14 _ 36 _ rfl rfl rfl rfl rfl (RV.of (by intro _ _ h; cases h) (.inl rfl) (fun _ xd => hP36 rfl rfl)) ?_
    refine Dr.read 15 _ 37 _ rfl rfl rfl rfl rfl (RV.of (by intro _ _ h; cases h) (.inl rfl) (fun _ xd => HV.fa fl54_0 rfl)) ?_
    refine Dr.read 16 _ 38 _ rfl rfl rfl rfl rfl (RV.of (by intro _ _ h; cases h) (.inl rfl) (fun _ xd => HV.ld rfl va2 (rdc_ext xd (cells_first (hC35.ext X13) rfl)))) ?_
    have hrow := hok.1.2.2.2.2 i (by omega)
    rw [(gd hz19 rfl : l.getD i (0, []) = z17)] at hrow
    have hrl := hrow.2.1
    have q50 := X13.bd
    refine Dr.eff 8 _ _ rfl (by intro d h; cases h; exact ⟨rfl, rfl⟩) rfl rfl rfl (EC.of (by intro _ _ h; cases h) (.inl rfl) (WV.call fn46 rfl (l06View_ok (hC21.ext X13) (hr28.ext X13) (hgr.ext X13) (fun h hh => by rw [hrl]; exact hin h hh) (by omega)))) (fun v H' h => .inl (h.1)) ?_
    rintro v44 H45 ⟨hx46, ho47⟩
    have X51 := Ext.trans X13 hx46
    have hb52 := hb14.ext hx46
    have X53 := Ext.refl H45
    have hLV48 := hLV.more hx46
    have hv49 := ho47.rd.okk (ok' := fun y => H.bd ≤ y ∧ (if H12.bd ≤ y then 3 else lab y) = 3) (fun y hy _ => ⟨Nat.le_trans q50 hy, if_pos hy⟩)
    obtain rfl : z31 = z17 := same_at hz19 hz33
    refine Dr.eff 17 _ _ rfl (by intro d h; cases h; exact ⟨rfl, rfl⟩) rfl rfl rfl (EC.of (by intro _ _ h; cases h) (.inl rfl) (WV.call fn80 rfl (add_ok (B0 := H) z31.1 hLV48 hv49 X51.bd hse.srt (by omega) (by omega) (by have := hrow.1; omega) (fun e he => ⟨hse.cl e he, fun y hy => by have := seeOk_in hse e he y hy; omega⟩)))) (fun v H' h => .inr (.inl rfl)) ?_
    rintro rr58 H54 ⟨hL55, hx56⟩
    have hx57 := But.mono hx56 (fun b hb => (⟨hb, trivial⟩ : H.bd ≤ b ∧ True))
    have X59 := Ext.thru X51 hx57 (fun b hb => Nat.le_trans (Nat.le_refl _) hb.1)
    have hb61 := hb52.but hx57 (fun e => by have q : H.bd ≤ b ∧ True := e; omega)
    refine Dr.fin rfl ?_
    refine nrm_blk (nrm_and ?_)
    refine AW.reg ?_
    refine AL.val rfl (.inl rfl) (HV.mv rfl) ?_
    refine AL.val rfl (.inl rfl) (HV.add rfl rfl (by omega)) ?_
    refine AL.val rfl (.inl rfl) (HV.as rfl) ?_
    refine AL.nil ?_
    refine nrm_and ?_
    exact ⟨i + 1, ⟨X59, hb61, by omega, by rw [seeV_succ (n := n) (g := g) (gd hz33 rfl)]; exact hL55, trivial⟩, by first | omega | (dsimp only; omega), ⟨rfl, rfl, rfl, rfl, rfl, trivial⟩⟩
  · -- else
    refine AW.exit ?_
    refine ex_and (ex_and (ex_blk ?_))
    refine nrm_and ?_
    refine AW.rs ?_
    refine AL.val rfl (.inl rfl) (HV.mv rfl) ?_
    refine AL.val rfl (.inl rfl) (HV.as rfl) ?_
    refine AL.nx ?_
    refine AW.ret ?_
    refine post_one rfl rfl ?_ (.inr rfl)
    exact ⟨⟨_, _, _, _, _, _, rfl, by have e : i = l.length := (by omega); rw [← e]; exact hLV⟩, X13⟩

set_option maxRecDepth 100000 in
theorem max_ok (a b : Int) : ACalls Try.prog W 81 #[.int .i64 a, .int .i64 b] H (fun r H' => r = .int .i64 (max a b) ∧ Ext H H') := by
  refine ACalls.of (args := [.int .i64 a, .int .i64 b]) Try.func81 rfl rfl ?_
  have X0 := Ext.refl H
  refine AW.rs ?_
  refine AL.val rfl (.inl rfl) (HV.as rfl) ?_
  refine AL.nx ?_
  refine AW.seq ?_
  refine AW.rs ?_
  refine AL.val rfl (.inl rfl) (HV.mv rfl) ?_
  refine AL.val rfl (.inl rfl) (HV.mv rfl) ?_
  refine AL.val rfl (.inl rfl) (HV.gti rfl rfl) ?_
  refine AL.nx ?_
  refine AW.ifd rfl (fun c1 => ?_) (fun c1 => ?_)
  · -- then
    refine AW.rs ?_
    refine AL.val rfl (.inl rfl) (HV.mv rfl) ?_
    refine AL.val rfl (.inl rfl) (HV.as rfl) ?_
    refine AL.nx ?_
    refine AW.ret ?_
    refine ret_and ?_
    refine post_one rfl rfl ?_ (.inr rfl)
    exact ⟨congrArg (Value.int .i64) (by omega), X0⟩
  · -- else
    refine AW.skip ?_
    refine nrm_and ?_
    refine AW.rs ?_
    refine AL.val rfl (.inl rfl) (HV.mv rfl) ?_
    refine AL.val rfl (.inl rfl) (HV.as rfl) ?_
    refine AL.nx ?_
    refine AW.ret ?_
    refine post_one rfl rfl ?_ (.inr rfl)
    exact ⟨congrArg (Value.int .i64) (by omega), X0⟩

set_option maxRecDepth 100000 in
theorem total_ok {v : Value} {l : List Int} {ok : Nat → Prop} (hr : RdK kI W H ok v l) (hb : ∀ x ∈ l, 0 ≤ x ∧ x ≤ 700) (hl : l.length ≤ 64) : ACalls Try.prog W 78 #[v] H (fun r H' => r = .int .i64 (sumL l) ∧ Ext H H') := by
  refine ACalls.of (args := [v]) Try.func78 rfl rfl ?_
  have X0 := Ext.refl H
  have hm1 := hr.max
  refine AW.rs ?_
  refine AL.val rfl (.inl rfl) (HV.as rfl) ?_
  refine AL.nx ?_
  refine AW.rs ?_
  refine AL.val rfl (.inl rfl) (HV.as rfl) ?_
  refine AL.nx ?_
  refine AW.seq ?_
  refine AW.rs ?_
  refine AL.val rfl (.inl rfl) (HV.as rfl) ?_
  refine AL.nx ?_
  refine AW.block ?_
  refine AW.loop (σ := Nat × Int) (fun ⟨i, p⟩ => [(0, v), (2, .int .i64 0), (3, .int .i64 p), (4, .int .i64 (i : Int))]) (fun ⟨i, p⟩ H' => Ext H H' ∧ i ≤ l.length ∧ p = sumL (l.take i) ∧ True) (fun ⟨i, p⟩ => l.length - i) (0, 0) ⟨X0, Nat.zero_le _, rfl, trivial⟩ ⟨rfl, rfl, rfl, rfl, trivial⟩ ?_
  rintro ⟨i, p⟩ H2 ⟨X3, hi, hp, _⟩
  have hbd := sumL_bd (B := 700) (by decide) (take_bd hb i)
  rw [List.length_take] at hbd
  refine AW.seq ?_
  refine AW.rs ?_
  refine AL.val rfl (.inl rfl) (HV.mv rfl) ?_
  refine AL.val rfl (.inl rfl) (HV.mv rfl) ?_
  refine AL.val rfl (.inl rfl) (HV.len Try.underlying22 rfl hr.isSl) ?_
  refine AL.val rfl (.inl rfl) (HV.lti rfl rfl) ?_
  refine AL.nx ?_
  refine AW.ifd rfl (fun c4 => ?_) (fun c4 => ?_)
  · -- then
    refine AW.skip ?_
    refine nrm_and ?_
    refine AW.seq ?_
    refine AW.block ?_
    refine AW.reg ?_
    refine AL.val rfl (.inl rfl) (HV.mv rfl) ?_
    refine AL.val rfl (.inl rfl) (HV.mv rfl) ?_
    refine AL.val rfl (.inl rfl) (HV.mv rfl) ?_
    obtain ⟨p5, z6, cs7, hz8, hK9, hC10, hP11⟩ := RdK.ix (q := (i : Int)) hr sl22 (by omega) (by omega)
    obtain rfl : cs7 = [.int .i64 z6] := hK9
    refine AL.val rfl (.inl rfl) (hP11 rfl rfl) ?_
    refine AL.val rfl (.inl rfl) (HV.ld rfl va2 (cells_first (hC10.ext X3) rfl)) ?_
    refine AL.val rfl (.inl rfl) (HV.add rfl rfl (by have q := hb _ (List.mem_of_getElem? hz8); omega)) ?_
    refine AL.val rfl (.inl rfl) (HV.as rfl) ?_
    refine AL.nil ?_
    refine nrm_blk (nrm_and ?_)
    refine AW.reg ?_
    refine AL.val rfl (.inl rfl) (HV.mv rfl) ?_
    refine AL.val rfl (.inl rfl) (HV.add rfl rfl (by omega)) ?_
    refine AL.val rfl (.inl rfl) (HV.as rfl) ?_
    refine AL.nil ?_
    refine nrm_and ?_
    exact ⟨(i + 1, p + z6), ⟨X3, by omega, by rw [sumL_snoc (getq hz8 rfl), hp], trivial⟩, by first | omega | (dsimp only; omega), ⟨rfl, rfl, rfl, rfl, trivial⟩⟩
  · -- else
    refine AW.exit ?_
    refine ex_and (ex_and (ex_blk ?_))
    refine nrm_and ?_
    refine AW.rs ?_
    refine AL.val rfl (.inl rfl) (HV.mv rfl) ?_
    refine AL.val rfl (.inl rfl) (HV.as rfl) ?_
    refine AL.nx ?_
    refine AW.ret ?_
    refine post_one rfl rfl ?_ (.inr rfl)
    exact ⟨congrArg (Value.int .i64) (by rw [hp, List.take_of_length_le (by omega)]), X3⟩

set_option maxRecDepth 100000 in
theorem sum_ok {v : Value} {l : List Int} {ok : Nat → Prop} (hr : RdK kI W H ok v l) (hb : ∀ x ∈ l, 0 ≤ x ∧ x ≤ 700) (hl : l.length ≤ 64) : ACalls Try.prog W 79 #[v] H (fun r H' => r = .int .i64 (sumL l) ∧ Ext H H') := by
  refine ACalls.of (args := [v]) Try.func79 rfl rfl ?_
  have X0 := Ext.refl H
  have hm1 := hr.max
  refine AW.rs ?_
  refine AL.val rfl (.inl rfl) (HV.as rfl) ?_
  refine AL.nx ?_
  refine AW.rs ?_
  refine AL.val rfl (.inl rfl) (HV.as rfl) ?_
  refine AL.nx ?_
  refine AW.seq ?_
  refine AW.rs ?_
  refine AL.val rfl (.inl rfl) (HV.mv rfl) ?_
  refine AL.val rfl (.inl rfl) (HV.len Try.underlying22 rfl hr.isSl) ?_
  refine AL.val rfl (.inl rfl) (HV.mv rfl) ?_
  refine AL.nx ?_
  refine AW.block ?_
  refine AW.loop (σ := Nat × Int) (fun ⟨i, p⟩ => [(2, .int .i64 0), (6, v), (7, .int .i64 (l.length : Int)), (3, .int .i64 p), (8, .int .i64 (i : Int))]) (fun ⟨i, p⟩ H' => Ext H H' ∧ i ≤ l.length ∧ p = sumL (l.take i) ∧ True) (fun ⟨i, p⟩ => l.length - i) (0, 0) ⟨X0, Nat.zero_le _, rfl, trivial⟩ ⟨rfl, rfl, rfl, rfl, rfl, trivial⟩ ?_
  rintro ⟨i, p⟩ H2 ⟨X3, hi, hp, _⟩
  have hbd := sumL_bd (B := 700) (by decide) (take_bd hb i)
  rw [List.length_take] at hbd
  refine AW.rs ?_
  refine AL.val rfl (.inl rfl) (HV.lti rfl rfl) ?_
  refine AL.nx ?_
  refine AW.seq ?_
  refine AW.ifd rfl (fun c4 => ?_) (fun c4 => ?_)
  · -- then
    refine AW.skip ?_
    refine nrm_and ?_
    refine AW.seq ?_
    refine AW.block ?_
    refine AW.rs ?_
    obtain ⟨p5, z6, cs7, hz8, hK9, hC10, hP11⟩ := RdK.ix (q := (i : Int)) hr sl22 (by omega) (by omega)
    obtain rfl : cs7 = [.int .i64 z6] := hK9
    refine AL.val rfl (.inl rfl) (hP11 rfl rfl) ?_
    refine AL.val rfl (.inl rfl) (HV.ld rfl va2 (cells_first (hC10.ext X3) rfl)) ?_
    refine AL.val rfl (.inl rfl) (HV.as rfl) ?_
    refine AL.nx ?_
    refine AW.reg ?_
    refine AL.val rfl (.inl rfl) (HV.mv rfl) ?_
    refine AL.val rfl (.inl rfl) (HV.mv rfl) ?_
    refine AL.val rfl (.inl rfl) (HV.add rfl rfl (by have q := hb _ (List.mem_of_getElem? hz8); omega)) ?_
    refine AL.val rfl (.inl rfl) (HV.as rfl) ?_
    refine AL.nil ?_
    refine nrm_blk (nrm_and ?_)
    refine AW.reg ?_
    refine AL.val rfl (.inl rfl) (HV.add rfl rfl (by omega)) ?_
    refine AL.val rfl (.inl rfl) (HV.mv rfl) ?_
    refine AL.nil ?_
    refine nrm_and ?_
    exact ⟨(i + 1, p + z6), ⟨X3, by omega, by rw [sumL_snoc (getq hz8 rfl), hp], trivial⟩, by first | omega | (dsimp only; omega), ⟨rfl, rfl, rfl, rfl, rfl, trivial⟩⟩
  · -- else
    refine AW.exit ?_
    refine ex_and (ex_and (ex_blk ?_))
    refine nrm_and ?_
    refine AW.rs ?_
    refine AL.val rfl (.inl rfl) (HV.mv rfl) ?_
    refine AL.val rfl (.inl rfl) (HV.as rfl) ?_
    refine AL.nx ?_
    refine AW.ret ?_
    refine post_one rfl rfl ?_ (.inr rfl)
    exact ⟨congrArg (Value.int .i64) (by rw [hp, List.take_of_length_le (by omega)]), X3⟩

set_option maxRecDepth 100000 in
theorem great_ok {v : Value} {l : List Int} {ok : Nat → Prop} (hr : RdK kI W H ok v l) (hb : ∀ x ∈ l, 0 ≤ x ∧ x ≤ 700) (hl : l.length ≤ 64) : ACalls Try.prog W 56 #[v] H (fun r H' => r = .int .i64 (maxL l) ∧ Ext H H') := by
  refine ACalls.of (args := [v]) Try.func56 rfl rfl ?_
  have X0 := Ext.refl H
  have hm1 := hr.max
  refine AW.rs ?_
  refine AL.val rfl (.inl rfl) (HV.as rfl) ?_
  refine AL.nx ?_
  refine AW.rs ?_
  refine AL.val rfl (.inl rfl) (HV.as rfl) ?_
  refine AL.nx ?_
  refine AW.seq ?_
  refine AW.rs ?_
  refine AL.val rfl (.inl rfl) (HV.as rfl) ?_
  refine AL.nx ?_
  refine AW.block ?_
  refine AW.loop (σ := Nat × Int) (fun ⟨i, p⟩ => [(0, v), (2, .int .i64 0), (3, .int .i64 p), (4, .int .i64 (i : Int))]) (fun ⟨i, p⟩ H' => Ext H H' ∧ i ≤ l.length ∧ p = maxL (l.take i) ∧ True) (fun ⟨i, p⟩ => l.length - i) (0, 0) ⟨X0, Nat.zero_le _, rfl, trivial⟩ ⟨rfl, rfl, rfl, rfl, trivial⟩ ?_
  rintro ⟨i, p⟩ H2 ⟨X3, hi, hp, _⟩
  have hbd := sumL_bd (B := 700) (by decide) (take_bd hb i)
  rw [List.length_take] at hbd
  refine AW.seq ?_
  refine AW.rs ?_
  refine AL.val rfl (.inl rfl) (HV.mv rfl) ?_
  refine AL.val rfl (.inl rfl) (HV.mv rfl) ?_
  refine AL.val rfl (.inl rfl) (HV.len Try.underlying22 rfl hr.isSl) ?_
  refine AL.val rfl (.inl rfl) (HV.lti rfl rfl) ?_
  refine AL.nx ?_
  refine AW.ifd rfl (fun c4 => ?_) (fun c4 => ?_)
  · -- then
    refine AW.skip ?_
    refine nrm_and ?_
    refine AW.seq ?_
    refine AW.block ?_
    refine AW.reg ?_
    refine AL.val rfl (.inl rfl) (HV.mv rfl) ?_
    refine AL.val rfl (.inl rfl) (HV.mv rfl) ?_
    refine AL.val rfl (.inl rfl) (HV.mv rfl) ?_
    obtain ⟨p5, z6, cs7, hz8, hK9, hC10, hP11⟩ := RdK.ix (q := (i : Int)) hr sl22 (by omega) (by omega)
    obtain rfl : cs7 = [.int .i64 z6] := hK9
    refine AL.val rfl (.inl rfl) (hP11 rfl rfl) ?_
    refine AL.val rfl (.inl rfl) (HV.ld rfl va2 (cells_first (hC10.ext X3) rfl)) ?_
    refine AL.w rfl (.inl rfl) (WV.call fn81 rfl (max_ok (W := W) p z6)) ?_
    rintro _ H12 ⟨rfl, hx13⟩
    have X14 := Ext.trans X3 hx13
    refine AL.val rfl (.inl rfl) (HV.as rfl) ?_
    refine AL.nil ?_
    refine nrm_blk (nrm_and ?_)
    refine AW.reg ?_
    refine AL.val rfl (.inl rfl) (HV.mv rfl) ?_
    refine AL.val rfl (.inl rfl) (HV.add rfl rfl (by omega)) ?_
    refine AL.val rfl (.inl rfl) (HV.as rfl) ?_
    refine AL.nil ?_
    refine nrm_and ?_
    exact ⟨(i + 1, max p z6), ⟨X14, by omega, by rw [maxL_snoc (getq hz8 rfl) (hb _ (List.mem_of_getElem? hz8)).1, hp], trivial⟩, by first | omega | (dsimp only; omega), ⟨rfl, rfl, rfl, rfl, trivial⟩⟩
  · -- else
    refine AW.exit ?_
    refine ex_and (ex_and (ex_blk ?_))
    refine nrm_and ?_
    refine AW.rs ?_
    refine AL.val rfl (.inl rfl) (HV.mv rfl) ?_
    refine AL.val rfl (.inl rfl) (HV.as rfl) ?_
    refine AL.nx ?_
    refine AW.ret ?_
    refine post_one rfl rfl ?_ (.inr rfl)
    exact ⟨congrArg (Value.int .i64) (by rw [hp, List.take_of_length_le (by omega)]), X3⟩

set_option maxRecDepth 100000 in
theorem opensT_ok {vs v : Value} {s : List Int} {l : List (Int × List Int)} {oks ok : Nat → Prop} {n : Int} {b : Nat} (hs : RdK kI W H oks vs s) (hr : RdK (kP kI (kR kI)) W H ok v l) (hb : At W H b ⟨30, [.int .i64 n, vs, v], 3⟩) {vg : Value} {g : List Int} {okg : Nat → Prop} (hgr : RdK kI W H okg vg g) (hok : okT n s l) (hgr_ : Ris 0 ((s.length : Int) - 1) g) : ACalls Try.prog W 60 #[.pointer (some ⟨b, 0, none⟩), vg] H (fun r H' => r = .bool (decide (openV (seeV n g l l.length))) ∧ Ext H H') := by
  refine ACalls.of (args := [.pointer (some ⟨b, 0, none⟩), vg]) Try.func60 rfl rfl ?_
  have X0 := Ext.refl H
  have hm1 := hgr.max
  have hs7 := hok.1.2.1
  have hg7 := ris_len hs7 hgr_
  have hin := grp_in hgr_
  have hn1 := hok.1.1
  have hl7 := hok.1.2.2.1
  have hse := see_all (g := g) hok
  have hsl := hse.len
  have hmst : (seeV n g l l.length).length = ((seeV n g l l.length).map Prod.snd).length := (List.length_map _).symm
  refine AW.rs ?_
  refine AL.val rfl (.inl rfl) (HV.as rfl) ?_
  refine AL.nx ?_
  refine AW.rs ?_
  refine AL.val rfl (.inl rfl) (HV.mv rfl) ?_
  refine AL.val rfl (.inl rfl) (HV.mv rfl) ?_
  refine AL.w rfl (.inl rfl) (WV.call fn55 rfl (see_ok (g := g) hs hr hb hgr hok hgr_)) ?_
  rintro _ H2 ⟨⟨bx3, lab4, vl5, vc6, lv7, cv8, rfl, hL9⟩, hx10⟩
  have X11 := Ext.trans X0 hx10
  have hb12 := hb.ext hx10
  have X13 := Ext.refl H2
  refine AL.val rfl (.inl rfl) (HV.as rfl) ?_
  refine AL.nx ?_
  refine AW.seq ?_
  refine AW.rs ?_
  refine AL.val rfl (.inl rfl) (HV.as rfl) ?_
  refine AL.nx ?_
  refine AW.block ?_
  refine AW.loop (σ := Nat) (fun i => [(5, .pointer (some ⟨bx3, 0, none⟩)), (6, .int .i64 (i : Int))]) (fun i H' => Ext H H' ∧ Ext H2 H' ∧ At W H' b ⟨30, [.int .i64 n, vs, v], 3⟩ ∧ At W H' bx3 ⟨82, [.int .i64 n, vl5, vc6], 3⟩ ∧ i ≤ (seeV n g l l.length).length ∧ (∀ k, k < i → manyL ((seeV n g l l.length).getD k ([], [])).2 ≤ 1) ∧ True) (fun i => (seeV n g l l.length).length - i) 0 ⟨X11, X13, hb12, hL9.hb, Nat.zero_le _, fun j hj => absurd hj (Nat.not_lt_zero _), trivial⟩ ⟨rfl, rfl, trivial⟩ ?_
  rintro i H14 ⟨X15, X16, hb17, hb18, hi, hop, _⟩
  refine AW.seq ?_
  refine AW.rs ?_
  refine AL.val rfl (.inl rfl) (HV.mv rfl) ?_
  refine AL.val rfl (.inl rfl) (HV.mv rfl) ?_
  refine AL.val rfl (.inl rfl) (HV.nc rfl) ?_
  refine AL.val rfl (.inl rfl) (HV.fa fl82_2 rfl) ?_
  refine AL.val rfl (.inl rfl) (HV.ld rfl va45 (at_cell_add hb18 rfl)) ?_
  refine AL.val rfl (.inl rfl) (HV.len Try.underlying45 rfl hL9.rdC.isSl) ?_
  refine AL.val rfl (.inl rfl) (HV.lti rfl rfl) ?_
  refine AL.nx ?_
  refine AW.ifd rfl (fun c19 => ?_) (fun c19 => ?_)
  · -- then
    refine AW.skip ?_
    refine nrm_and ?_
    refine AW.seq ?_
    refine AW.block ?_
    refine AW.seq ?_
    refine AW.draw' [0, 1, 3, 7, 0, 31, 63, 127, 0, 256, 768, 1792, 0, 7936, 16128, 32767, 65535] mixed (by rfl) ?_
    refine Dr.read 0 _ 19 _ rfl rfl rfl rfl rfl (RV.of (by intro _ _ h; cases h) (.inl rfl) (fun _ xd => HV.mv rfl)) ?_
    refine Dr.read 1 _ 20 _ rfl rfl rfl rfl rfl (RV.of (by intro _ _ h; cases h) (.inl rfl) (fun _ xd => HV.nc rfl)) ?_
    refine Dr.read 2 _ 21 _ rfl rfl rfl rfl rfl (RV.of (by intro _ _ h; cases h) (.inl rfl) (fun _ xd => HV.fa fl82_2 rfl)) ?_
    refine Dr.read 3 _ 22 _ rfl rfl rfl rfl rfl (RV.of (by intro _ _ h; cases h) (.inl rfl) (fun _ xd => HV.ld rfl va45 (rdc_ext xd (at_cell_add hb18 rfl)))) ?_
    refine Dr.read 4 _ 23 _ rfl rfl rfl rfl rfl (RV.of (by intro _ _ h; cases h) (.inl rfl) (fun _ xd => HV.mv rfl)) ?_
    obtain ⟨p20, z21, cs22, hz23, hK24, hC25, hP26⟩ := RdK.ix (q := (i : Int)) hL9.rdC sl45 (by omega) (by omega)
    obtain ⟨v27, rfl, hr28⟩ := hK24
    have hm29 := hr28.max
    refine Dr.read 5 _ 24 _ rfl rfl rfl rfl rfl (RV.of (by intro _ _ h; cases h) (.inl rfl) (fun _ xd => hP26 rfl rfl)) ?_
    refine Dr.read 6 _ 25 _ rfl rfl rfl rfl rfl (RV.of (by intro _ _ h; cases h) (.inl rfl) (fun _ xd => HV.ld rfl va22 (rdc_ext xd (cells_first (hC25.ext X16) rfl)))) ?_
    refine Dr.read 8 _ 27 _ rfl rfl rfl rfl rfl (RV.of (by intro _ _ h; cases h) (.inl rfl) (fun _ xd => HV.mv rfl)) ?_
    refine Dr.read 9 _ 28 _ rfl rfl rfl rfl rfl (RV.of (by intro _ _ h; cases h) (.inl rfl) (fun _ xd => HV.nc rfl)) ?_
    refine Dr.read 10 _ 29 _ rfl rfl rfl rfl rfl (RV.of (by intro _ _ h; cases h) (.inl rfl) (fun _ xd => HV.fa fl82_2 rfl)) ?_
    refine Dr.read 11 _ 30 _ rfl rfl rfl rfl rfl (RV.of (by intro _ _ h; cases h) (.inl rfl) (fun _ xd => HV.ld rfl va45 (rdc_ext xd (at_cell_add hb18 rfl)))) ?_
    refine Dr.read 12 _ 31 _ rfl rfl rfl rfl rfl (RV.of (by intro _ _ h; cases h) (.inl rfl) (fun _ xd => HV.mv rfl)) ?_
    obtain ⟨p30, z31, cs32, hz33, hK34, hC35, hP36⟩ := RdK.ix (q := (i : Int)) hL9.rdC sl45 (by omega) (by omega)
    obtain ⟨v37, rfl, hr38⟩ := hK34
    have hm39 := hr38.max
    refine Dr.read 13 _ 32 _ rfl rfl rfl rfl rfl (RV.of (by intro _ _ h; cases h) (.inl rfl) (fun _ xd => hP36 rfl rfl)) ?_
    refine Dr.read 14 _ 33 _ rfl rfl rfl rfl rfl (RV.of (by intro _ _ h; cases h) (.inl rfl) (fun _ xd => HV.ld rfl va22 (rdc_ext xd (cells_first (hC35.ext X16) rfl)))) ?_
    refine Dr.eff 7 _ _ rfl (by intro d h; cases h; exact ⟨rfl, rfl⟩) rfl rfl rfl (EC.of (by intro _ _ h; cases h) (.inl rfl) (WV.call fn56 rfl (great_ok (hr28.ext X16) (fun x hx => by obtain ⟨y, hy, e⟩ := snd_gd (st := seeV n g l l.length) hz23 rfl; exact see_nn hok y (List.mem_of_getElem? hy) x (by rw [e]; exact hx)) (by obtain ⟨y, hy, e⟩ := snd_gd (st := seeV n g l l.length) hz23 rfl; have := hse.cl y (List.mem_of_getElem? hy); rw [e] at this; omega)))) (fun v H' h => .inl (h.2)) ?_
    rintro _ H40 ⟨rfl, hx41⟩
    have X42 := Ext.trans X15 hx41
    have X43 := Ext.trans X16 hx41
    have hb44 := hb17.ext hx41
    have hb45 := hb18.ext hx41
    refine Dr.eff 15 _ _ rfl (by intro d h; cases h; exact ⟨rfl, rfl⟩) rfl rfl rfl (EC.of (by intro _ _ h; cases h) (.inl rfl) (WV.call fn78 rfl (total_ok (hr38.ext X43) (fun x hx => by obtain ⟨y, hy, e⟩ := snd_gd (st := seeV n g l l.length) hz33 rfl; exact see_nn hok y (List.mem_of_getElem? hy) x (by rw [e]; exact hx)) (by obtain ⟨y, hy, e⟩ := snd_gd (st := seeV n g l l.length) hz33 rfl; have := hse.cl y (List.mem_of_getElem? hy); rw [e] at this; omega)))) (fun v H' h => .inl (h.2)) ?_
    rintro _ H46 ⟨rfl, hx47⟩
    have X48 := Ext.trans X42 hx47
    have X49 := Ext.trans X43 hx47
    have hb50 := hb44.ext hx47
    have hb51 := hb45.ext hx47
    refine Dr.read 16 _ 35 _ rfl rfl rfl rfl rfl (RV.of (by intro _ _ h; cases h) (.inl rfl) (fun _ xd => HV.nei rfl rfl)) ?_
    refine Dr.fin rfl ?_
    refine nrm_and ?_
    refine AW.ifd rfl (fun c52 => ?_) (fun c52 => ?_)
    · -- then
      refine AW.rs ?_
      refine AL.val rfl (.inl rfl) (HV.as rfl) ?_
      refine AL.nx ?_
      refine AW.ret ?_
      refine ret_blk (ret_and (ret_and (ret_blk (ret_and ?_))))
      refine post_one rfl rfl ?_ (.inr rfl)
      exact ⟨dec_f (fun h => by obtain ⟨y, hy, ey⟩ := snd_gd (st := seeV n g l l.length) (j := i) hz23 rfl; have e2 : z31 = z21 := same_at hz23 hz33; have hc := c52; rw [e2, ← ey] at hc; have hmy := many_one (fun x hx => (see_nn hok y (List.mem_of_getElem? hy) x hx).1); exact hc (hmy.2 (h y (List.mem_of_getElem? hy)))), X48⟩
    · -- else
      refine AW.skip ?_
      refine nrm_blk (nrm_and ?_)
      refine AW.reg ?_
      refine AL.val rfl (.inl rfl) (HV.mv rfl) ?_
      refine AL.val rfl (.inl rfl) (HV.add rfl rfl (by omega)) ?_
      refine AL.val rfl (.inl rfl) (HV.as rfl) ?_
      refine AL.nil ?_
      refine nrm_and ?_
      exact ⟨i + 1, ⟨X48, X49, hb50, hb51, by omega, fun k hk => (Nat.lt_or_ge k i).elim (hop k) (fun h1 => by rw [show k = i by omega]; obtain ⟨y, hy, ey⟩ := snd_gd (st := seeV n g l l.length) (j := i) hz23 rfl; have e2 : z31 = z21 := same_at hz23 hz33; have hc := c52; rw [e2, ← ey] at hc; have hmy := many_one (fun x hx => (see_nn hok y (List.mem_of_getElem? hy) x hx).1); have q : (seeV n g l l.length).getD i ([], []) = y := (by simp [List.getD_eq_getElem?_getD, hy]); rw [q]; exact hmy.1 (by omega)), trivial⟩, by first | omega | (dsimp only; omega), ⟨rfl, rfl, trivial⟩⟩
  · -- else
    refine AW.exit ?_
    refine ex_and (ex_and (ex_blk ?_))
    refine nrm_and ?_
    refine AW.rs ?_
    refine AL.val rfl (.inl rfl) (HV.as rfl) ?_
    refine AL.nx ?_
    refine AW.ret ?_
    refine post_one rfl rfl ?_ (.inr rfl)
    exact ⟨dec_t (fun e he => by obtain ⟨k, hk, rfl⟩ := List.getElem_of_mem he; have := hop k (by omega); simpa [hk] using this), X15⟩

set_option maxRecDepth 100000 in
theorem op1_ok {va vb : Value} {k m : List Int} {ok ok2 : Nat → Prop} (hr : RdK kI W H ok va k) (hr2 : RdK kI W H ok2 vb m) : ACalls Try.prog W 83 #[.agg #[va, vb]] H (fun r H' => r = .bool (decide ((manyL m : Int) > 1)) ∧ Ext H H') := by
  refine ACalls.of (args := [.agg #[va, vb]]) Try.func83 rfl rfl ?_
  have X0 := Ext.refl H
  have hm1 := hr.max
  have hm2 := hr2.max
  refine AW.rs ?_
  refine AL.w rfl (.inl rfl) (WV.bx rfl rfl) ?_
  rintro _ H4 ⟨b3, rfl, hx5, hn6, hb7⟩
  have o8 := Nat.le_trans X0.bd hn6
  have X9 := Ext.trans X0 hx5
  have X10 := Ext.refl H4
  refine AL.val rfl (.inl rfl) (HV.as rfl) ?_
  refine AL.nx ?_
  refine AW.rs ?_
  refine AL.val rfl (.inl rfl) (HV.lda (cs := [va, vb]) rfl va73 (at_cells hb7 rfl)) ?_
  refine AL.w rfl (.inl rfl) (WV.call fn50 rfl (secrets_ok (hr.ext X9) (hr2.ext X9))) ?_
  rintro _ H11 ⟨rfl, hx12⟩
  have X13 := Ext.trans X9 hx12
  have X14 := Ext.trans X10 hx12
  have hb15 := hb7.ext hx12
  refine AL.val rfl (.inl rfl) (HV.gti rfl rfl) ?_
  refine AL.val rfl (.inl rfl) (HV.as rfl) ?_
  refine AL.nx ?_
  refine AW.ret ?_
  refine post_one rfl rfl ?_ (.inr rfl)
  exact ⟨rfl, X13⟩

set_option maxRecDepth 100000 in
theorem ixS_ok {v : Value} {l : List (List Int × List Int)} {ok : Nat → Prop} (hr : RdK (kP (kR kI) (kR kI)) W H ok v l) : ACalls Try.prog W 92 #[v, (.func (.func 83) #[] #[])] H (fun r H' => (∃ j : Int, r = .int .i64 j ∧ (0 ≤ j ↔ ¬ openV l)) ∧ Ext H H') := by
  refine ACalls.of (args := [v, (.func (.func 83) #[] #[])]) Try.func92 rfl rfl ?_
  have X0 := Ext.refl H
  have hm1 := hr.max
  refine AW.rs ?_
  refine AL.val rfl (.inl rfl) (HV.as rfl) ?_
  refine AL.nx ?_
  refine AW.seq ?_
  refine AW.rs ?_
  refine AL.val rfl (.inl rfl) (HV.mv rfl) ?_
  refine AL.val rfl (.inl rfl) (HV.len Try.underlying67 rfl hr.isSl) ?_
  refine AL.val rfl (.inl rfl) (HV.mv rfl) ?_
  refine AL.nx ?_
  refine AW.block ?_
  refine AW.loop (σ := Nat) (fun i => [(0, v), (1, (.func (.func 83) #[] #[])), (7, .int .i64 (l.length : Int)), (8, .int .i64 (i : Int))]) (fun i H' => Ext H H' ∧ i ≤ l.length ∧ (∀ k, k < i → manyL (l.getD k ([], [])).2 ≤ 1) ∧ True) (fun i => l.length - i) 0 ⟨X0, Nat.zero_le _, fun j hj => absurd hj (Nat.not_lt_zero _), trivial⟩ ⟨rfl, rfl, rfl, rfl, trivial⟩ ?_
  rintro i H2 ⟨X3, hi, he, _⟩
  refine AW.rs ?_
  refine AL.val rfl (.inl rfl) (HV.lti rfl rfl) ?_
  refine AL.nx ?_
  refine AW.seq ?_
  refine AW.ifd rfl (fun c4 => ?_) (fun c4 => ?_)
  · -- then
    refine AW.skip ?_
    refine nrm_and ?_
    refine AW.seq ?_
    refine AW.block ?_
    refine AW.rs ?_
    refine AL.val rfl (.inl rfl) (HV.mv rfl) ?_
    refine AL.val rfl (.inl rfl) (HV.as rfl) ?_
    refine AL.nx ?_
    refine AW.rs ?_
    refine AL.val rfl (.inl rfl) (HV.mv rfl) ?_
    refine AL.val rfl (.inl rfl) (HV.mv rfl) ?_
    refine AL.val rfl (.inl rfl) (HV.mv rfl) ?_
    obtain ⟨p5, z6, cs7, hz8, hK9, hC10, hP11⟩ := RdK.ix (q := (i : Int)) hr sl67 (by omega) (by omega)
    obtain ⟨cs12, cs13, rfl, hK14, hK15⟩ := hK9
    obtain ⟨v16, rfl, hr17⟩ := hK14
    have hm18 := hr17.max
    obtain ⟨v19, rfl, hr20⟩ := hK15
    have hm21 := hr20.max
    refine AL.val rfl (.inl rfl) (hP11 rfl rfl) ?_
    refine AL.val rfl (.inl rfl) (HV.lda (cs := [v16, v19]) rfl va73 (hC10.ext X3)) ?_
    refine AL.w rfl (.inl rfl) (WV.callv fn83 rfl rfl (op1_ok (hr17.ext X3) (hr20.ext X3))) ?_
    rintro _ H22 ⟨rfl, hx23⟩
    have X24 := Ext.trans X3 hx23
    refine AL.nx ?_
    refine AW.ifd rfl (fun c25 => ?_) (fun c25 => ?_)
    · -- then
      refine AW.rs ?_
      refine AL.val rfl (.inl rfl) (HV.mv rfl) ?_
      refine AL.val rfl (.inl rfl) (HV.as rfl) ?_
      refine AL.nx ?_
      refine AW.ret ?_
      refine ret_blk (ret_and (ret_and (ret_blk (ret_and ?_))))
      refine post_one rfl rfl ?_ (.inr rfl)
      exact ⟨⟨_, rfl, fun _ h => by have q := h _ (List.mem_of_getElem? hz8); have := c25; omega, fun _ => by omega⟩, X24⟩
    · -- else
      refine AW.skip ?_
      refine nrm_blk (nrm_and ?_)
      refine AW.reg ?_
      refine AL.val rfl (.inl rfl) (HV.add rfl rfl (by omega)) ?_
      refine AL.val rfl (.inl rfl) (HV.mv rfl) ?_
      refine AL.nil ?_
      refine nrm_and ?_
      exact ⟨i + 1, ⟨X24, by omega, fun k hk => (Nat.lt_or_ge k i).elim (he k) (fun h1 => by rw [show k = i by omega, gd hz8 rfl]; have := c25; omega), trivial⟩, by first | omega | (dsimp only; omega), ⟨rfl, rfl, rfl, rfl, trivial⟩⟩
  · -- else
    refine AW.exit ?_
    refine ex_and (ex_and (ex_blk ?_))
    refine nrm_and ?_
    refine AW.rs ?_
    refine AL.val rfl (.inl rfl) (HV.as rfl) ?_
    refine AL.nx ?_
    refine AW.ret ?_
    refine post_one rfl rfl ?_ (.inr rfl)
    have he9 := he; exact ⟨⟨_, rfl, fun h => absurd h (by decide), fun h => absurd (fun e hm => by obtain ⟨k, hk, rfl⟩ := List.getElem_of_mem hm; have := he9 k (by omega); simpa [hk] using this) h⟩, X3⟩

set_option maxRecDepth 100000 in
theorem coS_ok {v : Value} {l : List (List Int × List Int)} {ok : Nat → Prop} (hr : RdK (kP (kR kI) (kR kI)) W H ok v l) : ACalls Try.prog W 82 #[v, (.func (.func 83) #[] #[])] H (fun r H' => r = .bool (decide (¬ openV l)) ∧ Ext H H') := by
  refine ACalls.of (args := [v, (.func (.func 83) #[] #[])]) Try.func82 rfl rfl ?_
  have X0 := Ext.refl H
  have hm1 := hr.max
  refine AW.rs ?_
  refine AL.val rfl (.inl rfl) (HV.as rfl) ?_
  refine AL.nx ?_
  refine AW.rs ?_
  refine AL.val rfl (.inl rfl) (HV.mv rfl) ?_
  refine AL.val rfl (.inl rfl) (HV.mv rfl) ?_
  refine AL.w rfl (.inl rfl) (WV.call fn92 rfl (ixS_ok hr)) ?_
  rintro _ H2 ⟨⟨q4, rfl, he5⟩, hx3⟩
  have X6 := Ext.trans X0 hx3
  refine AL.val rfl (.inl rfl) (HV.gei rfl rfl) ?_
  refine AL.val rfl (.inl rfl) (HV.as rfl) ?_
  refine AL.nx ?_
  refine AW.ret ?_
  refine post_one rfl rfl ?_ (.inr rfl)
  exact ⟨congrArg Value.bool (decide_eq_decide.2 he5), X6⟩

set_option maxRecDepth 100000 in
theorem opensI_ok {vs v : Value} {s : List Int} {l : List (Int × List Int)} {oks ok : Nat → Prop} (n : Int) (hs : RdK kI W H oks vs s) (hr : RdK (kP kI (kR kI)) W H ok v l) {g : List Int} (hok : okT n s l) (hgr_ : Ris 0 ((s.length : Int) - 1) g) : ACalls Try.prog W 61 #[.agg #[.int .i64 n, vs, v], .int .u64 ((bitN g : Nat) : Int)] H (fun r H' => r = .bool (decide (openV (seeV n g l l.length))) ∧ Ext H H') := by
  refine ACalls.of (args := [.agg #[.int .i64 n, vs, v], .int .u64 ((bitN g : Nat) : Int)]) Try.func61 rfl rfl ?_
  have X0 := Ext.refl H
  have hm1 := hs.max
  have hm2 := hr.max
  have hs7 := hok.1.2.1
  have hg7 := ris_len hs7 hgr_
  have hin := grp_in hgr_
  have hn1 := hok.1.1
  have hl7 := hok.1.2.2.1
  refine AW.rs ?_
  refine AL.w rfl (.inl rfl) (WV.bx rfl rfl) ?_
  rintro _ H4 ⟨b3, rfl, hx5, hn6, hb7⟩
  have o8 := Nat.le_trans X0.bd hn6
  have X9 := Ext.trans X0 hx5
  have X10 := Ext.refl H4
  refine AL.val rfl (.inl rfl) (HV.as rfl) ?_
  refine AL.nx ?_
  refine AW.rs ?_
  refine AL.val rfl (.inl rfl) (HV.lda (cs := [.int .i64 n, vs, v]) rfl va30 (at_cells hb7 rfl)) ?_
  refine AL.val rfl (.inl rfl) (HV.mv rfl) ?_
  refine AL.w rfl (.inl rfl) (WV.call fn48 rfl (sights_ok (g := g) n (hs.ext X9) (hr.ext X9) (bitN g) (bit_128 hs7 hgr_) (grp_of hs7 hgr_) hok hin)) ?_
  rintro v11 H12 ⟨hx13, ho14⟩
  have X16 := Ext.trans X9 hx13
  have X17 := Ext.trans X10 hx13
  have hb18 := hb7.ext hx13
  have X19 := Ext.refl H12
  have hr15 := ho14.rd.le (le_X (le_OR (Le.refl _)) (le_OR (Le.refl _)))
  refine AL.w rfl (.inl rfl) (WV.call fn82 rfl (coS_ok hr15)) ?_
  rintro _ H20 ⟨rfl, hx21⟩
  have X22 := Ext.trans X16 hx21
  have X23 := Ext.trans X17 hx21
  have X24 := Ext.trans X19 hx21
  have hb25 := hb18.ext hx21
  refine AL.val rfl (.inl rfl) (HV.not rfl) ?_
  refine AL.val rfl (.inl rfl) (HV.as rfl) ?_
  refine AL.nx ?_
  refine AW.ret ?_
  refine post_one rfl rfl ?_ (.inr rfl)
  exact ⟨congrArg Value.bool (by by_cases h : openV (seeV n g l l.length) <;> simp [h]), X22⟩

set_option maxRecDepth 100000 in
theorem specTO_ok {vs v : Value} {s : List Int} {l : List (Int × List Int)} {oks ok : Nat → Prop} (n : Int) (hs : RdK kI W H oks vs s) (hr : RdK (kP kI (kR kI)) W H ok v l) {vg : Value} {g : List Int} {okg : Nat → Prop} (hgr : RdK kI W H okg vg g) : ACalls Try.prog W 25 #[.agg #[.int .i64 n, vs, v], vg] H (fun r H' => r = .tuple #[.bool (decide (codeT n s l g = 0 ∧ openV (seeV n g l l.length))), .int .i64 (codeT n s l g)] ∧ Ext H H') := by
  refine ACalls.of (args := [.agg #[.int .i64 n, vs, v], vg]) Try.func25 rfl rfl ?_
  have X0 := Ext.refl H
  have hm1 := hs.max
  have hm2 := hr.max
  have hm3 := hgr.max
  refine AW.rs ?_
  refine AL.w rfl (.inl rfl) (WV.bx rfl rfl) ?_
  rintro _ H5 ⟨b4, rfl, hx6, hn7, hb8⟩
  have o9 := Nat.le_trans X0.bd hn7
  have X10 := Ext.trans X0 hx6
  have X11 := Ext.refl H5
  refine AL.val rfl (.inl rfl) (HV.as rfl) ?_
  refine AL.val rfl (.inl rfl) (HV.as rfl) ?_
  refine AL.nx ?_
  refine AW.seq ?_
  refine AW.rs ?_
  refine AL.val rfl (.inl rfl) (HV.mv rfl) ?_
  refine AL.w rfl (.inl rfl) (WV.call fn45 rfl (l06Asked_ok (hs.ext X10) (hr.ext X10) hb8 (hgr.ext X10))) ?_
  rintro _ H12 ⟨rfl, hx13⟩
  have X14 := Ext.trans X10 hx13
  have X15 := Ext.trans X11 hx13
  have hb16 := hb8.ext hx13
  refine AL.val rfl (.inl rfl) (HV.as rfl) ?_
  refine AL.nx ?_
  refine AW.rs ?_
  refine AL.val rfl (.inl rfl) (HV.mv rfl) ?_
  refine AL.val rfl (.inl rfl) (HV.nei rfl rfl) ?_
  refine AL.nx ?_
  refine AW.ifd rfl (fun c17 => ?_) (fun c17 => ?_)
  · -- then
    refine AW.rs ?_
    refine AL.val rfl (.inl rfl) (HV.mv rfl) ?_
    refine AL.val rfl (.inl rfl) (HV.as rfl) ?_
    refine AL.val rfl (.inl rfl) (HV.as rfl) ?_
    refine AL.nx ?_
    refine AW.ret ?_
    refine ret_and ?_
    refine post_two rfl rfl rfl ?_ (.inr rfl)
    have hne := c17; exact ⟨by rw [decide_eq_false (fun h => hne h.1)], X14⟩
  · -- else
    refine AW.skip ?_
    refine nrm_and ?_
    refine AW.rs ?_
    have hcd : codeT n s l g = 0 := (by omega)
    have hok := (code0.1 hcd).1
    have hgr_ := (code0.1 hcd).2
    have hs7 := hok.1.2.1
    have hg7 := ris_len hs7 hgr_
    have hin := grp_in hgr_
    refine AL.val rfl (.inl rfl) (HV.mv rfl) ?_
    refine AL.w rfl (.inl rfl) (WV.call fn60 rfl (opensT_ok (hs.ext X14) (hr.ext X14) hb16 (hgr.ext X14) hok hgr_)) ?_
    rintro _ H18 ⟨rfl, hx19⟩
    have X20 := Ext.trans X14 hx19
    have X21 := Ext.trans X15 hx19
    have hb22 := hb16.ext hx19
    refine AL.val rfl (.inl rfl) (HV.as rfl) ?_
    refine AL.val rfl (.inl rfl) (HV.as rfl) ?_
    refine AL.nx ?_
    refine AW.ret ?_
    refine post_two rfl rfl rfl ?_ (.inr rfl)
    exact ⟨by rw [hcd]; exact congrArg (fun z => Value.tuple #[.bool z, .int .i64 0]) (decide_eq_decide.2 ⟨fun h => ⟨rfl, h⟩, fun h => h.2⟩), X20⟩

set_option maxRecDepth 100000 in
theorem implTO_ok {vs v : Value} {s : List Int} {l : List (Int × List Int)} {oks ok : Nat → Prop} (n : Int) (hs : RdK kI W H oks vs s) (hr : RdK (kP kI (kR kI)) W H ok v l) {vg : Value} {g : List Int} {okg : Nat → Prop} (hgr : RdK kI W H okg vg g) : ACalls Try.prog W 26 #[.agg #[.int .i64 n, vs, v], vg] H (fun r H' => r = .tuple #[.bool (decide (codeT n s l g = 0 ∧ openV (seeV n g l l.length))), .int .i64 (codeT n s l g)] ∧ Ext H H') := by
  refine ACalls.of (args := [.agg #[.int .i64 n, vs, v], vg]) Try.func26 rfl rfl ?_
  have X0 := Ext.refl H
  have hm1 := hs.max
  have hm2 := hr.max
  have hm3 := hgr.max
  refine AW.rs ?_
  refine AL.w rfl (.inl rfl) (WV.bx rfl rfl) ?_
  rintro _ H5 ⟨b4, rfl, hx6, hn7, hb8⟩
  have o9 := Nat.le_trans X0.bd hn7
  have X10 := Ext.trans X0 hx6
  have X11 := Ext.refl H5
  refine AL.val rfl (.inl rfl) (HV.as rfl) ?_
  refine AL.val rfl (.inl rfl) (HV.as rfl) ?_
  refine AL.nx ?_
  refine AW.seq ?_
  refine AW.rs ?_
  refine AL.val rfl (.inl rfl) (HV.lda (cs := [.int .i64 n, vs, v]) rfl va30 (at_cells hb8 rfl)) ?_
  refine AL.val rfl (.inl rfl) (HV.mv rfl) ?_
  refine AL.w rfl (.inl rfl) (WV.call fn47 rfl (tableCode_ok n (hs.ext X10) (hr.ext X10) (hgr.ext X10))) ?_
  rintro _ H12 ⟨rfl, hx13⟩
  have X14 := Ext.trans X10 hx13
  have X15 := Ext.trans X11 hx13
  have hb16 := hb8.ext hx13
  refine AL.val rfl (.inl rfl) (HV.as rfl) ?_
  refine AL.nx ?_
  refine AW.rs ?_
  refine AL.val rfl (.inl rfl) (HV.mv rfl) ?_
  refine AL.val rfl (.inl rfl) (HV.nei rfl rfl) ?_
  refine AL.nx ?_
  refine AW.ifd rfl (fun c17 => ?_) (fun c17 => ?_)
  · -- then
    refine AW.rs ?_
    refine AL.val rfl (.inl rfl) (HV.mv rfl) ?_
    refine AL.val rfl (.inl rfl) (HV.as rfl) ?_
    refine AL.val rfl (.inl rfl) (HV.as rfl) ?_
    refine AL.nx ?_
    refine AW.ret ?_
    refine ret_and ?_
    refine post_two rfl rfl rfl ?_ (.inr rfl)
    have hne := c17; exact ⟨by rw [decide_eq_false (fun h => hne h.1)], X14⟩
  · -- else
    refine AW.skip ?_
    refine nrm_and ?_
    refine AW.seq ?_
    refine AW.draw' [0, 0, 2, 7, 15, 31] mixed (by rfl) ?_
    have hcd : codeT n s l g = 0 := (by omega)
    have hok := (code0.1 hcd).1
    have hgr_ := (code0.1 hcd).2
    have hs7 := hok.1.2.1
    have hg7 := ris_len hs7 hgr_
    have hin := grp_in hgr_
    refine Dr.read 0 _ 13 _ rfl rfl rfl rfl rfl (RV.of (by intro _ _ h; cases h) (.inl rfl) (fun _ xd => HV.lda (cs := [.int .i64 n, vs, v]) rfl va30 (fun j u hu => rdc_ext xd ((at_cells hb16 rfl) j u hu)))) ?_
    refine Dr.read 1 _ 14 _ rfl rfl rfl rfl rfl (RV.of (by intro _ _ h; cases h) (.inl rfl) (fun _ xd => HV.mv rfl)) ?_
    refine Dr.eff 2 _ _ rfl (by intro d h; cases h; exact ⟨rfl, rfl⟩) rfl rfl rfl (EC.of (by intro _ _ h; cases h) (.inl rfl) (WV.call fn49 rfl (crowdOf_ok (hgr.ext X14) (fun x hx => by have := hin x hx; omega)))) (fun v H' h => .inl (h.2)) ?_
    rintro _ H18 ⟨rfl, hx19⟩
    rw [(bits_nat hs7 hgr_).2.1]
    have X20 := Ext.trans X14 hx19
    have X21 := Ext.trans X15 hx19
    have hb22 := hb16.ext hx19
    refine Dr.eff 3 _ _ rfl (by intro d h; cases h; exact ⟨rfl, rfl⟩) rfl rfl rfl (EC.of (by intro _ _ h; cases h) (.inl rfl) (WV.call fn61 rfl (opensI_ok n (hs.ext X20) (hr.ext X20) hok hgr_))) (fun v H' h => .inl (h.2)) ?_
    rintro _ H23 ⟨rfl, hx24⟩
    have X25 := Ext.trans X20 hx24
    have X26 := Ext.trans X21 hx24
    have hb27 := hb22.ext hx24
    refine Dr.read 4 _ 4 _ rfl rfl rfl rfl rfl (RV.of (by intro _ _ h; cases h) (.inl rfl) (fun _ xd => HV.as rfl)) ?_
    refine Dr.read 5 _ 5 _ rfl rfl rfl rfl rfl (RV.of (by intro _ _ h; cases h) (.inl rfl) (fun _ xd => HV.as rfl)) ?_
    refine Dr.fin rfl ?_
    refine nrm_and ?_
    refine AW.ret ?_
    refine post_two rfl rfl rfl ?_ (.inr rfl)
    exact ⟨by rw [hcd]; exact congrArg (fun z => Value.tuple #[.bool z, .int .i64 0]) (decide_eq_decide.2 ⟨fun h => ⟨rfl, h⟩, fun h => h.2⟩), X25⟩

set_option maxRecDepth 100000 in
theorem law_TableOpens {vs v : Value} {s : List Int} {l : List (Int × List Int)} {oks ok : Nat → Prop} (n : Int) (hs : RdK kI W H oks vs s) (hr : RdK (kP kI (kR kI)) W H ok v l) {vg : Value} {g : List Int} {okg : Nat → Prop} (hgr : RdK kI W H okg vg g) : ACalls Try.prog W 8 #[.agg #[.int .i64 n, vs, v], vg] H (fun r H' => r = .bool true ∧ Ext H H') := by
  refine ACalls.of (args := [.agg #[.int .i64 n, vs, v], vg]) Try.func8 rfl rfl ?_
  have X0 := Ext.refl H
  have hm1 := hs.max
  have hm2 := hr.max
  have hm3 := hgr.max
  refine AW.rs ?_
  refine AL.w rfl (.inl rfl) (WV.bx rfl rfl) ?_
  rintro _ H5 ⟨b4, rfl, hx6, hn7, hb8⟩
  have o9 := Nat.le_trans X0.bd hn7
  have X10 := Ext.trans X0 hx6
  have X11 := Ext.refl H5
  refine AL.val rfl (.inl rfl) (HV.as rfl) ?_
  refine AL.nx ?_
  refine AW.seq ?_
  refine AW.rs ?_
  refine AL.val rfl (.inl rfl) (HV.mv rfl) ?_
  refine AL.val rfl (.inl rfl) (HV.len Try.underlying22 rfl hgr.isSl) ?_
  refine AL.val rfl (.inl rfl) (HV.gti rfl rfl) ?_
  refine AL.nx ?_
  refine AW.ifd rfl (fun c12 => ?_) (fun c12 => ?_)
  · -- then
    refine AW.rs ?_
    refine AL.val rfl (.inl rfl) (HV.as rfl) ?_
    refine AL.nx ?_
    refine AW.ret ?_
    refine ret_and ?_
    refine post_one rfl rfl ?_ (.inr rfl)
    exact ⟨rfl, X10⟩
  · -- else
    refine AW.skip ?_
    refine nrm_and ?_
    refine AW.rs ?_
    refine AL.val rfl (.inl rfl) (HV.as rfl) ?_
    refine AL.nx ?_
    refine AW.rs ?_
    refine AL.val rfl (.inl rfl) (HV.lda (cs := [.int .i64 n, vs, v]) rfl va25 (at_cells hb8 rfl)) ?_
    refine AL.val rfl (.inl rfl) (HV.mv rfl) ?_
    refine AL.w rfl (.inl rfl) (WV.call fn10 rfl (szTable_ok n (hs.ext X10) (hr.ext X10) 1048576 (by omega))) ?_
    rintro _ H13 ⟨⟨q15, rfl, ha16, hb17, he18⟩, hx14⟩
    have X19 := Ext.trans X10 hx14
    have X20 := Ext.trans X11 hx14
    have hb21 := hb8.ext hx14
    refine AL.val rfl (.inl rfl) (HV.as rfl) ?_
    refine AL.nx ?_
    refine AW.seq ?_
    refine AW.rs ?_
    refine AL.val rfl (.inl rfl) (HV.mv rfl) ?_
    refine AL.val rfl (.inl rfl) (HV.lti rfl rfl) ?_
    refine AL.nx ?_
    refine AW.ifd rfl (fun c22 => ?_) (fun c22 => ?_)
    · -- then
      refine AW.rs ?_
      refine AL.val rfl (.inl rfl) (HV.as rfl) ?_
      refine AL.nx ?_
      refine AW.ret ?_
      refine ret_and ?_
      refine post_one rfl rfl ?_ (.inr rfl)
      exact ⟨rfl, X19⟩
    · -- else
      refine AW.skip ?_
      refine nrm_and ?_
      refine AW.rs ?_
      refine AL.val rfl (.inl rfl) (HV.lda (cs := [.int .i64 n, vs, v]) rfl va25 (at_cells hb21 rfl)) ?_
      refine AL.w rfl (.inl rfl) (WV.call fn12 rfl (toTable_ok n (hs.ext X19) (hr.ext X19) (he18 (by omega)).1 (he18 (by omega)).2)) ?_
      rintro _ H25 ⟨⟨u23, v24, rfl, ho27, ho28⟩, hx26⟩
      have X31 := Ext.trans X19 hx26
      have X32 := Ext.trans X20 hx26
      have hb33 := hb21.ext hx26
      have X34 := Ext.refl H25
      have hr29 := ho27.rd
      have hr30 := ho28.rd.le (le_P (Le.refl _) (le_OR (Le.refl _)))
      refine AL.val rfl (.inl rfl) (HV.mv rfl) ?_
      refine AL.w rfl (.inl rfl) (WV.call fn18 rfl (toS_ok (hgr.ext X31) (by omega))) ?_
      rintro v35 H36 ⟨hx37, ho38⟩
      have X40 := Ext.trans X31 hx37
      have X41 := Ext.trans X32 hx37
      have X42 := Ext.trans X34 hx37
      have hb43 := hb33.ext hx37
      have X44 := Ext.refl H36
      have hr39 := ho38.rd
      refine AL.w rfl (.inl rfl) (WV.call fn25 rfl (specTO_ok n (hr29.ext X42) (hr30.ext X42) hr39)) ?_
      rintro _ H45 ⟨rfl, hx46⟩
      have X47 := Ext.trans X40 hx46
      have X48 := Ext.trans X41 hx46
      have X49 := Ext.trans X42 hx46
      have X50 := Ext.trans X44 hx46
      have hb51 := hb43.ext hx46
      refine AL.val rfl (.inl rfl) (HV.mv rfl) ?_
      refine AL.val rfl (.inl rfl) (HV.ex rfl rfl) ?_
      refine AL.val rfl (.inl rfl) (HV.ex rfl rfl) ?_
      refine AL.val rfl (.inl rfl) (HV.as rfl) ?_
      refine AL.val rfl (.inl rfl) (HV.as rfl) ?_
      refine AL.nx ?_
      refine AW.rs ?_
      refine AL.val rfl (.inl rfl) (HV.lda (cs := [.int .i64 n, vs, v]) rfl va25 (at_cells hb51 rfl)) ?_
      refine AL.w rfl (.inl rfl) (WV.call fn12 rfl (toTable_ok n (hs.ext X47) (hr.ext X47) (he18 (by omega)).1 (he18 (by omega)).2)) ?_
      rintro _ H54 ⟨⟨u52, v53, rfl, ho56, ho57⟩, hx55⟩
      have X60 := Ext.trans X47 hx55
      have X61 := Ext.trans X48 hx55
      have X62 := Ext.trans X49 hx55
      have X63 := Ext.trans X50 hx55
      have hb64 := hb51.ext hx55
      have X65 := Ext.refl H54
      have hr58 := ho56.rd
      have hr59 := ho57.rd.le (le_P (Le.refl _) (le_OR (Le.refl _)))
      refine AL.w rfl (.inl rfl) (WV.al ze30 rfl) ?_
      rintro _ H67 ⟨b66, rfl, hx68, hn69, hb70⟩
      have o71 := Nat.le_trans X60.bd hn69
      have o72 := Nat.le_trans X61.bd hn69
      have o73 := Nat.le_trans X62.bd hn69
      have o74 := Nat.le_trans X63.bd hn69
      have o75 := Nat.le_trans X65.bd hn69
      have ne76 : b4 ≠ b66 := by have := hb64.lt; omega
      have X77 := Ext.trans X60 hx68
      have X78 := Ext.trans X61 hx68
      have X79 := Ext.trans X62 hx68
      have X80 := Ext.trans X63 hx68
      have X81 := Ext.trans X65 hx68
      have hb82 := hb64.ext hx68
      have X83 := Ext.refl H67
      refine AL.w0 (.inl rfl) (WV.st rfl rfl va30 rfl hb70 (Nat.le_of_ble_eq_true rfl) (one_cons rfl (one_cons (sl_one1 (hr58.ext X81).isSl) (one_cons (sl_one1 (hr59.ext X81).isSl) one_nil)))) ?_
      rintro _ H84 ⟨hx85, hb86⟩
      have X87 := Ext.thru X77 hx85 (fun z_ hz_ => by rw [hz_]; exact o71)
      have X88 := Ext.thru X78 hx85 (fun z_ hz_ => by rw [hz_]; exact o72)
      have X89 := Ext.thru X79 hx85 (fun z_ hz_ => by rw [hz_]; exact o73)
      have X90 := Ext.thru X80 hx85 (fun z_ hz_ => by rw [hz_]; exact o74)
      have X91 := Ext.thru X81 hx85 (fun z_ hz_ => by rw [hz_]; exact o75)
      have hb93 := hb82.but hx85 ne76
      have hb94 : At W H84 b66 ⟨30, [.int .i64 n, u52, v53], 3⟩ := hb86
      refine AL.nx ?_
      refine AW.rs ?_
      refine AL.val rfl (.inl rfl) (HV.mv rfl) ?_
      refine AL.w rfl (.inl rfl) (WV.call fn18 rfl (toS_ok (hgr.ext X87) (by omega))) ?_
      rintro v95 H96 ⟨hx97, ho98⟩
      have X100 := Ext.trans X87 hx97
      have X101 := Ext.trans X88 hx97
      have X102 := Ext.trans X89 hx97
      have X103 := Ext.trans X90 hx97
      have X104 := Ext.trans X91 hx97
      have hb105 := hb93.ext hx97
      have hb106 := hb94.ext hx97
      have X107 := Ext.refl H96
      have hr99 := ho98.rd
      refine AL.val rfl (.inl rfl) (HV.as rfl) ?_
      refine AL.nx ?_
      refine AW.rs ?_
      refine AL.val rfl (.inl rfl) (HV.lda (cs := [.int .i64 n, u52, v53]) rfl va30 (at_cells hb106 rfl)) ?_
      refine AL.val rfl (.inl rfl) (HV.mv rfl) ?_
      refine AL.w rfl (.inl rfl) (WV.call fn26 rfl (implTO_ok n (hr58.ext X104) (hr59.ext X104) hr99)) ?_
      rintro _ H108 ⟨rfl, hx109⟩
      have X110 := Ext.trans X100 hx109
      have X111 := Ext.trans X101 hx109
      have X112 := Ext.trans X102 hx109
      have X113 := Ext.trans X103 hx109
      have X114 := Ext.trans X104 hx109
      have X115 := Ext.trans X107 hx109
      have hb116 := hb105.ext hx109
      have hb117 := hb106.ext hx109
      refine AL.val rfl (.inl rfl) (HV.mv rfl) ?_
      refine AL.val rfl (.inl rfl) (HV.ex rfl rfl) ?_
      refine AL.val rfl (.inl rfl) (HV.ex rfl rfl) ?_
      refine AL.val rfl (.inl rfl) (HV.as rfl) ?_
      refine AL.val rfl (.inl rfl) (HV.as rfl) ?_
      refine AL.nx ?_
      refine AW.seq ?_
      refine AW.rs ?_
      refine AL.val rfl (.inl rfl) (HV.mv rfl) ?_
      refine AL.val rfl (.inl rfl) (HV.mv rfl) ?_
      refine AL.val rfl (.inl rfl) (HV.neb Try.underlying4 rfl rfl) ?_
      refine AL.val rfl (.inl rfl) (HV.mv rfl) ?_
      cases c118 : !(decide ((codeT n s l g) = 0 ∧ openV (seeV n g l (l).length)) == decide ((codeT n s l g) = 0 ∧ openV (seeV n g l (l).length)))
      · -- false
        refine AL.val rfl (.inr ⟨_, _, _, rfl, rfl, rfl⟩) (HV.mv rfl) ?_
        refine AL.val rfl (.inr ⟨_, _, _, rfl, rfl, rfl⟩) (HV.mv rfl) ?_
        refine AL.val rfl (.inr ⟨_, _, _, rfl, rfl, rfl⟩) (HV.nei rfl rfl) ?_
        refine AL.val rfl (.inl rfl) (HV.pickF rfl rfl) ?_
        refine AL.nx ?_
        refine AW.ifd rfl (fun c119 => ?_) (fun c119 => ?_)
        · -- then
          refine AW.rs ?_
          refine AL.val rfl (.inl rfl) (HV.as rfl) ?_
          refine AL.nx ?_
          refine AW.ret ?_
          refine ret_and ?_
          refine post_one rfl rfl ?_ (.inr rfl)
          exact absurd c119 (by simp)
        · -- else
          refine AW.skip ?_
          refine nrm_and ?_
          refine AW.seq ?_
          refine AW.seq ?_
          refine AW.draw' [0, 0, 2, 7, 15] mixed (by rfl) ?_
          refine Dr.read 0 _ 46 _ rfl rfl rfl rfl rfl (RV.of (by intro _ _ h; cases h) (.inl rfl) (fun _ xd => HV.lda (cs := [.int .i64 n, u52, v53]) rfl va30 (fun j u hu => rdc_ext xd ((at_cells hb117 rfl) j u hu)))) ?_
          refine Dr.read 1 _ 47 _ rfl rfl rfl rfl rfl (RV.of (by intro _ _ h; cases h) (.inl rfl) (fun _ xd => HV.lda (cs := [.int .i64 n, vs, v]) rfl va25 (fun j u hu => rdc_ext xd ((at_cells hb116 rfl) j u hu)))) ?_
          refine Dr.eff 2 _ _ rfl (by intro d h; cases h; exact ⟨rfl, rfl⟩) rfl rfl rfl (EC.of (by intro _ _ h; cases h) (.inl rfl) (WV.call fn12 rfl (toTable_ok n (hs.ext X110) (hr.ext X110) (he18 (by omega)).1 (he18 (by omega)).2))) (fun v H' h => .inl (h.2)) ?_
          rintro _ H122 ⟨⟨u120, v121, rfl, ho124, ho125⟩, hx123⟩
          have X128 := Ext.trans X110 hx123
          have X129 := Ext.trans X111 hx123
          have X130 := Ext.trans X112 hx123
          have X131 := Ext.trans X113 hx123
          have X132 := Ext.trans X114 hx123
          have X133 := Ext.trans X115 hx123
          have hb134 := hb116.ext hx123
          have hb135 := hb117.ext hx123
          have X136 := Ext.refl H122
          have hr126 := ho124.rd
          have hr127 := ho125.rd.le (le_P (Le.refl _) (le_OR (Le.refl _)))
          refine Dr.eff 3 _ _ rfl (by intro d h; cases h; exact ⟨rfl, rfl⟩) rfl rfl rfl (EC.of (by intro _ _ h; cases h) (.inl rfl) (WV.call fn14 rfl (eqTable_ok n n (hr58.ext X132) (hr59.ext X132) hr126 hr127))) (fun v H' h => .inl (h.2)) ?_
          rintro _ H137 ⟨rfl, hx138⟩
          have X139 := Ext.trans X128 hx138
          have X140 := Ext.trans X129 hx138
          have X141 := Ext.trans X130 hx138
          have X142 := Ext.trans X131 hx138
          have X143 := Ext.trans X132 hx138
          have X144 := Ext.trans X133 hx138
          have X145 := Ext.trans X136 hx138
          have hb146 := hb134.ext hx138
          have hb147 := hb135.ext hx138
          refine Dr.read 4 _ 50 _ rfl rfl rfl rfl rfl (RV.of (by intro _ _ h; cases h) (.inl rfl) (fun _ xd => HV.not rfl)) ?_
          refine Dr.fin rfl ?_
          refine nrm_and ?_
          refine AW.ifn rfl (fun c148 => ?_) (fun c148 => ?_)
          · -- then
            refine AW.rs ?_
            refine AL.val rfl (.inl rfl) (HV.as rfl) ?_
            refine AL.nx ?_
            refine AW.ret ?_
            refine ret_and ?_
            refine post_one rfl rfl ?_ (.inr rfl)
            exact absurd c148 (by simp)
          · -- else
            refine AW.skip ?_
            refine nrm_and ?_
            refine AW.seq ?_
            refine AW.rs ?_
            refine AL.val rfl (.inl rfl) (HV.mv rfl) ?_
            refine AL.val rfl (.inl rfl) (HV.mv rfl) ?_
            refine AL.w rfl (.inl rfl) (WV.call fn18 rfl (toS_ok (hgr.ext X139) (by omega))) ?_
            rintro v149 H150 ⟨hx151, ho152⟩
            have X154 := Ext.trans X139 hx151
            have X155 := Ext.trans X140 hx151
            have X156 := Ext.trans X141 hx151
            have X157 := Ext.trans X142 hx151
            have X158 := Ext.trans X143 hx151
            have X159 := Ext.trans X144 hx151
            have X160 := Ext.trans X145 hx151
            have hb161 := hb146.ext hx151
            have hb162 := hb147.ext hx151
            have X163 := Ext.refl H150
            have hr153 := ho152.rd
            refine AL.w rfl (.inl rfl) (WV.call fn20 rfl (eqS_ok (hr99.ext X159) hr153)) ?_
            rintro _ H164 ⟨rfl, hx165⟩
            have X166 := Ext.trans X154 hx165
            have X167 := Ext.trans X155 hx165
            have X168 := Ext.trans X156 hx165
            have X169 := Ext.trans X157 hx165
            have X170 := Ext.trans X158 hx165
            have X171 := Ext.trans X159 hx165
            have X172 := Ext.trans X160 hx165
            have X173 := Ext.trans X163 hx165
            have hb174 := hb161.ext hx165
            have hb175 := hb162.ext hx165
            refine AL.val rfl (.inl rfl) (HV.not rfl) ?_
            refine AL.nx ?_
            refine AW.ifn rfl (fun c176 => ?_) (fun c176 => ?_)
            · -- then
              refine AW.rs ?_
              refine AL.val rfl (.inl rfl) (HV.as rfl) ?_
              refine AL.nx ?_
              refine AW.ret ?_
              refine ret_and ?_
              refine post_one rfl rfl ?_ (.inr rfl)
              exact absurd c176 (by simp)
            · -- else
              refine AW.skip ?_
              refine nrm_and ?_
              refine AW.rs ?_
              refine AL.val rfl (.inl rfl) (HV.as rfl) ?_
              refine AL.nx ?_
              refine AW.ret ?_
              refine post_one rfl rfl ?_ (.inr rfl)
              exact ⟨rfl, X166⟩
      · -- true
        refine AL.off rfl rfl (by decide) rfl ?_
        refine AL.off rfl rfl (by decide) rfl ?_
        refine AL.off rfl rfl (by decide) rfl ?_
        refine AL.val rfl (.inl rfl) (HV.pickT rfl rfl) ?_
        refine AL.nx ?_
        refine AW.cond rfl (fun _ => ?_) (fun h => by cases h)
        refine AW.rs ?_
        refine AL.val rfl (.inl rfl) (HV.as rfl) ?_
        refine AL.nx ?_
        refine AW.ret ?_
        refine ret_and ?_
        refine post_one rfl rfl ?_ (.inr rfl)
        exact absurd c118 (by simp)

set_option maxRecDepth 100000 in
theorem hidesT_ok {vs v : Value} {s : List Int} {l : List (Int × List Int)} {oks ok : Nat → Prop} {n : Int} {b : Nat} (hs : RdK kI W H oks vs s) (hr : RdK (kP kI (kR kI)) W H ok v l) (hb : At W H b ⟨30, [.int .i64 n, vs, v], 3⟩) {vg : Value} {g : List Int} {okg : Nat → Prop} (hgr : RdK kI W H okg vg g) (hok : okT n s l) (hgr_ : Ris 0 ((s.length : Int) - 1) g) : ACalls Try.prog W 53 #[.pointer (some ⟨b, 0, none⟩), vg] H (fun r H' => r = .bool (decide (hideV (seeV n g l l.length) (allV n l) (l.length : Int))) ∧ Ext H H') := by
  refine ACalls.of (args := [.pointer (some ⟨b, 0, none⟩), vg]) Try.func53 rfl rfl ?_
  have X0 := Ext.refl H
  have hm1 := hgr.max
  have hs7 := hok.1.2.1
  have hg7 := ris_len hs7 hgr_
  have hin := grp_in hgr_
  have hn1 := hok.1.1
  have hl7 := hok.1.2.2.1
  have hse := see_all (g := g) hok
  have hsl := hse.len
  have hmst : (seeV n g l l.length).length = ((seeV n g l l.length).map Prod.snd).length := (List.length_map _).symm
  have hAL := allV_in hok
  have hp0 := see_pos (g := []) hok
  have hm0 : (seeV n [] l l.length).length = ((seeV n [] l l.length).map Prod.snd).length := (List.length_map _).symm
  refine AW.rs ?_
  refine AL.val rfl (.inl rfl) (HV.as rfl) ?_
  refine AL.nx ?_
  refine AW.rs ?_
  refine AL.val rfl (.inl rfl) (HV.mv rfl) ?_
  refine AL.val rfl (.inl rfl) (HV.mv rfl) ?_
  refine AL.w rfl (.inl rfl) (WV.call fn55 rfl (see_ok (g := g) hs hr hb hgr hok hgr_)) ?_
  rintro _ H2 ⟨⟨bx3, lab4, vl5, vc6, lv7, cv8, rfl, hL9⟩, hx10⟩
  have X11 := Ext.trans X0 hx10
  have hb12 := hb.ext hx10
  have X13 := Ext.refl H2
  refine AL.val rfl (.inl rfl) (HV.as rfl) ?_
  refine AL.nx ?_
  refine AW.rs ?_
  refine AL.val rfl (.inl rfl) (HV.mv rfl) ?_
  have y14 := hb12.lt
  have y15 := hL9.hb.lt
  have o16 := X11.bd
  have o17 := X13.bd
  refine AL.w rfl (.inl rfl) (WV.bsK (K := kI) (l := ([] : List Int)) (css := []) sl22 rfl rfl (by first | rfl | (simp [Instr.fill, Value.cells, kI, kB, kU, kS, Kd.sc]; done) | (simp [Instr.fill, Value.cells, kI, kB, kU, kS, Kd.sc, rng1, rng2, rng3, rng4, kP])) rfl segs_nil) ?_
  rintro v18 H19 ⟨hx20, ho21⟩
  have X22 := Ext.trans X11 hx20
  have X23 := Ext.trans X13 hx20
  have hb24 := hb12.ext hx20
  have hb25 := hL9.hb.ext hx20
  refine AL.w rfl (.inl rfl) (WV.call fn55 rfl (see_ok (g := []) (hs.ext X22) (hr.ext X22) hb24 ho21.rd hok (fun j hj => absurd hj (Nat.not_lt_zero _)))) ?_
  rintro _ H27 ⟨⟨bx28, lab29, vl30, vc31, lv32, cv33, rfl, hL34⟩, hx35⟩
  have X36 := Ext.trans X22 hx35
  have X37 := Ext.trans X23 hx35
  have ho38 := ho21.ext hx35
  have hb39 := hb24.ext hx35
  have hb40 := hb25.ext hx35
  have X41 := Ext.refl H27
  refine AL.val rfl (.inl rfl) (HV.nc rfl) ?_
  refine AL.val rfl (.inl rfl) (HV.fa fl82_2 rfl) ?_
  refine AL.val rfl (.inl rfl) (HV.ld rfl va45 (at_cell_add hL34.hb rfl)) ?_
  obtain ⟨p42, z43, cs44, hz45, hK46, hC47, hP48⟩ := RdK.ix (q := 0) hL34.rdC sl45 (by omega) (by omega)
  obtain ⟨v49, rfl, hr50⟩ := hK46
  have hm51 := hr50.max
  refine AL.val rfl (.inl rfl) (hP48 rfl rfl) ?_
  refine AL.val rfl (.inl rfl) (HV.ld rfl va22 (cells_first hC47 rfl)) ?_
  refine AL.val rfl (.inl rfl) (HV.as rfl) ?_
  refine AL.nx ?_
  refine AW.rs ?_
  obtain ⟨y0, hy0, ey0⟩ := snd_gd (st := seeV n [] l l.length) (j := 0) hz45 rfl
  have hall : z43 = allV n l := by unfold allV; rw [← ey0]; simp [List.getD_eq_getElem?_getD, hy0]
  have hallL : z43.length = n.toNat := by rw [hall]; exact hAL.1
  refine AL.val rfl (.inl rfl) (HV.mv rfl) ?_
  refine AL.val rfl (.inl rfl) (HV.nc rfl) ?_
  refine AL.val rfl (.inl rfl) (HV.fa fl30_2 rfl) ?_
  refine AL.val rfl (.inl rfl) (HV.ld rfl va28 (at_cell_add hb39 rfl)) ?_
  refine AL.val rfl (.inl rfl) (HV.len Try.underlying28 rfl hr.isSl) ?_
  refine AL.val rfl (.inl rfl) (HV.as rfl) ?_
  refine AL.nx ?_
  refine AW.seq ?_
  refine AW.rs ?_
  refine AL.val rfl (.inl rfl) (HV.as rfl) ?_
  refine AL.nx ?_
  refine AW.block ?_
  refine AW.loop (σ := Nat) (fun i => [(5, .pointer (some ⟨bx3, 0, none⟩)), (6, v49), (7, .int .i64 (l.length : Int)), (8, .int .i64 (i : Int))]) (fun i H' => Ext H H' ∧ Ext H2 H' ∧ Ext H27 H' ∧ At W H' b ⟨30, [.int .i64 n, vs, v], 3⟩ ∧ At W H' bx3 ⟨82, [.int .i64 n, vl5, vc6], 3⟩ ∧ At W H' bx28 ⟨82, [.int .i64 n, vl30, vc31], 3⟩ ∧ OwnK kI 2 W H' (fun b => H2.bd ≤ b) v18 (([] : List Int) : List Int) ∧ i ≤ (seeV n g l l.length).length ∧ (∀ k, k < i → ∀ q, q < (allV n l).length → ((seeV n g l l.length).getD k ([], [])).2.getD q 0 * (l.length : Int) = sumL ((seeV n g l l.length).getD k ([], [])).2 * (allV n l).getD q 0) ∧ True) (fun i => (seeV n g l l.length).length - i) 0 ⟨X36, X37, X41, hb39, hb40, hL34.hb, ho38, Nat.zero_le _, fun j hj => absurd hj (Nat.not_lt_zero _), trivial⟩ ⟨rfl, rfl, rfl, rfl, trivial⟩ ?_
  rintro i H52 ⟨X53, X54, X55, hb56, hb57, hb58, ho59, hi, hh, _⟩
  refine AW.seq ?_
  refine AW.rs ?_
  refine AL.val rfl (.inl rfl) (HV.mv rfl) ?_
  refine AL.val rfl (.inl rfl) (HV.mv rfl) ?_
  refine AL.val rfl (.inl rfl) (HV.nc rfl) ?_
  refine AL.val rfl (.inl rfl) (HV.fa fl82_2 rfl) ?_
  refine AL.val rfl (.inl rfl) (HV.ld rfl va45 (at_cell_add hb57 rfl)) ?_
  refine AL.val rfl (.inl rfl) (HV.len Try.underlying45 rfl hL9.rdC.isSl) ?_
  refine AL.val rfl (.inl rfl) (HV.lti rfl rfl) ?_
  refine AL.nx ?_
  refine AW.ifd rfl (fun c60 => ?_) (fun c60 => ?_)
  · -- then
    refine AW.skip ?_
    refine nrm_and ?_
    refine AW.seq ?_
    refine AW.block ?_
    refine AW.rs ?_
    refine AL.val rfl (.inl rfl) (HV.mv rfl) ?_
    refine AL.val rfl (.inl rfl) (HV.nc rfl) ?_
    refine AL.val rfl (.inl rfl) (HV.fa fl82_2 rfl) ?_
    refine AL.val rfl (.inl rfl) (HV.ld rfl va45 (at_cell_add hb57 rfl)) ?_
    refine AL.val rfl (.inl rfl) (HV.mv rfl) ?_
    obtain ⟨p61, z62, cs63, hz64, hK65, hC66, hP67⟩ := RdK.ix (q := (i : Int)) hL9.rdC sl45 (by omega) (by omega)
    obtain ⟨v68, rfl, hr69⟩ := hK65
    have hm70 := hr69.max
    refine AL.val rfl (.inl rfl) (hP67 rfl rfl) ?_
    refine AL.val rfl (.inl rfl) (HV.ld rfl va22 (cells_first (hC66.ext X54) rfl)) ?_
    obtain ⟨y, hy, ey⟩ := snd_gd (st := seeV n g l l.length) (j := i) hz64 rfl
    have hcl := hse.cl y (List.mem_of_getElem? hy)
    have hnn := see_nn hok y (List.mem_of_getElem? hy)
    rw [ey] at hcl hnn
    have hsb := sumL_bd (B := 700) (by decide) hnn
    have hgy : (seeV n g l l.length).getD i ([], []) = y := by simp [List.getD_eq_getElem?_getD, hy]
    refine AL.w rfl (.inl rfl) (WV.call fn78 rfl (total_ok (hr69.ext X54) (fun x hx => by obtain ⟨y, hy, e⟩ := snd_gd (st := seeV n g l l.length) hz64 rfl; exact see_nn hok y (List.mem_of_getElem? hy) x (by rw [e]; exact hx)) (by obtain ⟨y, hy, e⟩ := snd_gd (st := seeV n g l l.length) hz64 rfl; have := hse.cl y (List.mem_of_getElem? hy); rw [e] at this; omega))) ?_
    rintro _ H71 ⟨rfl, hx72⟩
    have X73 := Ext.trans X53 hx72
    have X74 := Ext.trans X54 hx72
    have X75 := Ext.trans X55 hx72
    have ho76 := ho59.ext hx72
    have hb77 := hb56.ext hx72
    have hb78 := hb57.ext hx72
    have hb79 := hb58.ext hx72
    refine AL.val rfl (.inl rfl) (HV.as rfl) ?_
    refine AL.nx ?_
    refine AW.rs ?_
    refine AL.val rfl (.inl rfl) (HV.as rfl) ?_
    refine AL.nx ?_
    refine AW.block ?_
    refine AW.loop (σ := Nat) (fun j => [(5, .pointer (some ⟨bx3, 0, none⟩)), (6, v49), (7, .int .i64 (l.length : Int)), (8, .int .i64 (i : Int)), (9, .int .i64 (sumL z62)), (27, .int .i64 (i : Int)), (28, .pointer (some ⟨bx3, 0, none⟩)), (29, .pointer (some ⟨bx3, 0, none⟩)), (30, .pointer (some ⟨bx3, 2, none⟩)), (31, vc6), (32, .int .i64 (((seeV n g l l.length).map Prod.snd).length : Int)), (33, .bool (decide ((i : Int) < (((seeV n g l l.length).map Prod.snd).length : Int)))), (36, .pointer (some ⟨bx3, 0, none⟩)), (37, .pointer (some ⟨bx3, 0, none⟩)), (38, .pointer (some ⟨bx3, 2, none⟩)), (39, vc6), (40, .int .i64 (i : Int)), (41, .pointer (some p61)), (42, v68), (43, .int .i64 (sumL z62)), (10, .int .i64 (j : Int))]) (fun j H' => Ext H H' ∧ Ext H2 H' ∧ Ext H27 H' ∧ At W H' b ⟨30, [.int .i64 n, vs, v], 3⟩ ∧ At W H' bx3 ⟨82, [.int .i64 n, vl5, vc6], 3⟩ ∧ At W H' bx28 ⟨82, [.int .i64 n, vl30, vc31], 3⟩ ∧ OwnK kI 2 W H' (fun b => H2.bd ≤ b) v18 (([] : List Int) : List Int) ∧ j ≤ z43.length ∧ (∀ q, q < j → z62.getD q 0 * (l.length : Int) = sumL z62 * (allV n l).getD q 0) ∧ True) (fun j => z43.length - j) 0 ⟨X73, X74, X75, hb77, hb78, hb79, ho76, Nat.zero_le _, fun j hj => absurd hj (Nat.not_lt_zero _), trivial⟩ ⟨rfl, rfl, rfl, rfl, rfl, rfl, rfl, rfl, rfl, rfl, rfl, rfl, rfl, rfl, rfl, rfl, rfl, rfl, rfl, rfl, rfl, trivial⟩ ?_
    rintro j H80 ⟨X81, X82, X83, hb84, hb85, hb86, ho87, hj, hrw, _⟩
    refine AW.seq ?_
    refine AW.rs ?_
    refine AL.val rfl (.inl rfl) (HV.mv rfl) ?_
    refine AL.val rfl (.inl rfl) (HV.mv rfl) ?_
    refine AL.val rfl (.inl rfl) (HV.len Try.underlying22 rfl hr50.isSl) ?_
    refine AL.val rfl (.inl rfl) (HV.lti rfl rfl) ?_
    refine AL.nx ?_
    refine AW.ifd rfl (fun c88 => ?_) (fun c88 => ?_)
    · -- then
      refine AW.skip ?_
      refine nrm_and ?_
      refine AW.seq ?_
      refine AW.block ?_
      refine AW.seq ?_
      refine AW.draw' [0, 1, 3, 7, 0, 31, 63, 0, 255, 511, 0, 2047, 0, 0, 0, 24576, 57344, 126976, 262143] mixed (by rfl) ?_
      refine Dr.read 0 _ 50 _ rfl rfl rfl rfl rfl (RV.of (by intro _ _ h; cases h) (.inl rfl) (fun _ xd => HV.mv rfl)) ?_
      refine Dr.read 1 _ 51 _ rfl rfl rfl rfl rfl (RV.of (by intro _ _ h; cases h) (.inl rfl) (fun _ xd => HV.nc rfl)) ?_
      refine Dr.read 2 _ 52 _ rfl rfl rfl rfl rfl (RV.of (by intro _ _ h; cases h) (.inl rfl) (fun _ xd => HV.fa fl82_2 rfl)) ?_
      refine Dr.read 3 _ 53 _ rfl rfl rfl rfl rfl (RV.of (by intro _ _ h; cases h) (.inl rfl) (fun _ xd => HV.ld rfl va45 (rdc_ext xd (at_cell_add hb85 rfl)))) ?_
      refine Dr.read 4 _ 54 _ rfl rfl rfl rfl rfl (RV.of (by intro _ _ h; cases h) (.inl rfl) (fun _ xd => HV.mv rfl)) ?_
      obtain ⟨p89, z90, cs91, hz92, hK93, hC94, hP95⟩ := RdK.ix (q := (i : Int)) hL9.rdC sl45 (by omega) (by omega)
      obtain ⟨v96, rfl, hr97⟩ := hK93
      have hm98 := hr97.max
      refine Dr.read 5 _ 55 _ rfl rfl rfl rfl rfl (RV.of (by intro _ _ h; cases h) (.inl rfl) (fun _ xd => hP95 rfl rfl)) ?_
      refine Dr.read 6 _ 56 _ rfl rfl rfl rfl rfl (RV.of (by intro _ _ h; cases h) (.inl rfl) (fun _ xd => HV.ld rfl va22 (rdc_ext xd (cells_first (hC94.ext X82) rfl)))) ?_
      refine Dr.read 7 _ 57 _ rfl rfl rfl rfl rfl (RV.of (by intro _ _ h; cases h) (.inl rfl) (fun _ xd => HV.mv rfl)) ?_
      obtain ⟨p99, z100, cs101, hz102, hK103, hC104, hP105⟩ := RdK.ix (q := (j : Int)) hr97 sl22 (by omega) (by have e2 : z90 = z62 := same_at hz64 hz92; rw [e2]; omega)
      obtain rfl : cs101 = [.int .i64 z100] := hK103
      refine Dr.read 8 _ 58 _ rfl rfl rfl rfl rfl (RV.of (by intro _ _ h; cases h) (.inl rfl) (fun _ xd => hP105 rfl rfl)) ?_
      refine Dr.read 9 _ 59 _ rfl rfl rfl rfl rfl (RV.of (by intro _ _ h; cases h) (.inl rfl) (fun _ xd => HV.ld rfl va2 (rdc_ext xd (cells_first (hC104.ext X82) rfl)))) ?_
      refine Dr.read 10 _ 60 _ rfl rfl rfl rfl rfl (RV.of (by intro _ _ h; cases h) (.inl rfl) (fun _ xd => HV.mv rfl)) ?_
      refine Dr.read 11 _ 61 _ rfl rfl rfl rfl rfl (RV.of (by intro _ _ h; cases h) (.inl rfl) (fun _ xd => HV.mul rfl rfl (by have e2 : z90 = z62 := same_at hz64 hz92; have q := List.mem_of_getElem? hz102; rw [e2] at q; exact mul_in (hnn _ q) (by omega)))) ?_
      refine Dr.read 12 _ 62 _ rfl rfl rfl rfl rfl (RV.of (by intro _ _ h; cases h) (.inl rfl) (fun _ xd => HV.mv rfl)) ?_
      refine Dr.read 13 _ 63 _ rfl rfl rfl rfl rfl (RV.of (by intro _ _ h; cases h) (.inl rfl) (fun _ xd => HV.mv rfl)) ?_
      refine Dr.read 14 _ 64 _ rfl rfl rfl rfl rfl (RV.of (by intro _ _ h; cases h) (.inl rfl) (fun _ xd => HV.mv rfl)) ?_
      obtain ⟨p106, z107, cs108, hz109, hK110, hC111, hP112⟩ := RdK.ix (q := (j : Int)) hr50 sl22 (by omega) (by omega)
      obtain rfl : cs108 = [.int .i64 z107] := hK110
      refine Dr.read 15 _ 65 _ rfl rfl rfl rfl rfl (RV.of (by intro _ _ h; cases h) (.inl rfl) (fun _ xd => hP112 rfl rfl)) ?_
      refine Dr.read 16 _ 66 _ rfl rfl rfl rfl rfl (RV.of (by intro _ _ h; cases h) (.inl rfl) (fun _ xd => HV.ld rfl va2 (rdc_ext xd (cells_first (hC111.ext X83) rfl)))) ?_
      refine Dr.read 17 _ 67 _ rfl rfl rfl rfl rfl (RV.of (by intro _ _ h; cases h) (.inl rfl) (fun _ xd => HV.mul rfl rfl (by have q := List.mem_of_getElem? hz109; rw [hall] at q; have q2 := mul_in (hAL.2 _ q) (b := sumL z62) (by have := hsb; omega); rw [Int.mul_comm] at q2; exact q2))) ?_
      refine Dr.read 18 _ 68 _ rfl rfl rfl rfl rfl (RV.of (by intro _ _ h; cases h) (.inl rfl) (fun _ xd => HV.nei rfl rfl)) ?_
      refine Dr.fin rfl ?_
      refine nrm_and ?_
      refine AW.ifd rfl (fun c113 => ?_) (fun c113 => ?_)
      · -- then
        refine AW.rs ?_
        refine AL.val rfl (.inl rfl) (HV.as rfl) ?_
        refine AL.nx ?_
        refine AW.ret ?_
        refine ret_blk (ret_and (ret_and (ret_blk (ret_blk (ret_and (ret_and (ret_blk (ret_and ?_))))))))
        refine post_one rfl rfl ?_ (.inr rfl)
        exact ⟨dec_f (fun h => by have e2 : z90 = z62 := same_at hz64 hz92; have q := h y (List.mem_of_getElem? hy) j (by omega); rw [ey, ← hall, ← e2, gd hz102 rfl, gd hz109 rfl, e2] at q; exact c113 q), X81⟩
      · -- else
        refine AW.skip ?_
        refine nrm_blk (nrm_and ?_)
        refine AW.reg ?_
        refine AL.val rfl (.inl rfl) (HV.mv rfl) ?_
        refine AL.val rfl (.inl rfl) (HV.add rfl rfl (by omega)) ?_
        refine AL.val rfl (.inl rfl) (HV.as rfl) ?_
        refine AL.nil ?_
        refine nrm_and ?_
        exact ⟨j + 1, ⟨X81, X82, X83, hb84, hb85, hb86, ho87, by omega, fun q hq => (Nat.lt_or_ge q j).elim (hrw q) (fun h1 => by have e2 : z90 = z62 := same_at hz64 hz92; rw [show q = j by omega, ← hall, ← e2, gd hz102 rfl, gd hz109 rfl, e2]; have q9 := c113; omega), trivial⟩, by first | omega | (dsimp only; omega), ⟨rfl, rfl, rfl, rfl, rfl, rfl, rfl, rfl, rfl, rfl, rfl, rfl, rfl, rfl, rfl, rfl, rfl, rfl, rfl, rfl, rfl, trivial⟩⟩
    · -- else
      refine AW.exit ?_
      refine ex_and (ex_and (ex_blk ?_))
      refine nrm_blk (nrm_and ?_)
      refine AW.reg ?_
      refine AL.val rfl (.inl rfl) (HV.mv rfl) ?_
      refine AL.val rfl (.inl rfl) (HV.add rfl rfl (by omega)) ?_
      refine AL.val rfl (.inl rfl) (HV.as rfl) ?_
      refine AL.nil ?_
      refine nrm_and ?_
      exact ⟨i + 1, ⟨X81, X82, X83, hb84, hb85, hb86, ho87, by omega, fun k hk => (Nat.lt_or_ge k i).elim (hh k) (fun h1 => by rw [show k = i by omega, hgy, ey]; intro q hq; exact hrw q (by omega)), trivial⟩, by first | omega | (dsimp only; omega), ⟨rfl, rfl, rfl, rfl, trivial⟩⟩
  · -- else
    refine AW.exit ?_
    refine ex_and (ex_and (ex_blk ?_))
    refine nrm_and ?_
    refine AW.rs ?_
    refine AL.val rfl (.inl rfl) (HV.as rfl) ?_
    refine AL.nx ?_
    refine AW.ret ?_
    refine post_one rfl rfl ?_ (.inr rfl)
    exact ⟨dec_t (fun e he => by obtain ⟨k, hk, rfl⟩ := List.getElem_of_mem he; have := hh k (by omega); simpa [hk] using this), X53⟩

set_option maxRecDepth 100000 in
theorem hidesI_ok {vs v : Value} {s : List Int} {l : List (Int × List Int)} {oks ok : Nat → Prop} (n : Int) (hs : RdK kI W H oks vs s) (hr : RdK (kP kI (kR kI)) W H ok v l) {g : List Int} (hok : okT n s l) (hgr_ : Ris 0 ((s.length : Int) - 1) g) : ACalls Try.prog W 54 #[.agg #[.int .i64 n, vs, v], .int .u64 ((bitN g : Nat) : Int)] H (fun r H' => r = .bool (decide (hideV (seeV n g l l.length) (allV n l) (l.length : Int))) ∧ Ext H H') := by
  refine ACalls.of (args := [.agg #[.int .i64 n, vs, v], .int .u64 ((bitN g : Nat) : Int)]) Try.func54 rfl rfl ?_
  have X0 := Ext.refl H
  have hm1 := hs.max
  have hm2 := hr.max
  have hs7 := hok.1.2.1
  have hg7 := ris_len hs7 hgr_
  have hin := grp_in hgr_
  have hn1 := hok.1.1
  have hl7 := hok.1.2.2.1
  have hse := see_all (g := g) hok
  have hsl := hse.len
  have hAL := allV_in hok
  have hp0 := see_pos (g := []) hok
  refine AW.rs ?_
  refine AL.w rfl (.inl rfl) (WV.bx rfl rfl) ?_
  rintro _ H4 ⟨b3, rfl, hx5, hn6, hb7⟩
  have o8 := Nat.le_trans X0.bd hn6
  have X9 := Ext.trans X0 hx5
  have X10 := Ext.refl H4
  refine AL.val rfl (.inl rfl) (HV.as rfl) ?_
  refine AL.nx ?_
  refine AW.rs ?_
  refine AL.val rfl (.inl rfl) (HV.lda (cs := [.int .i64 n, vs, v]) rfl va30 (at_cells hb7 rfl)) ?_
  refine AL.w rfl (.inl rfl) (WV.call fn48 rfl (sights_ok (g := []) n (hs.ext X9) (hr.ext X9) 0 (by decide) (by decide) hok (fun h hh => by cases hh))) ?_
  rintro v11 H12 ⟨hx13, ho14⟩
  have X16 := Ext.trans X9 hx13
  have X17 := Ext.trans X10 hx13
  have hb18 := hb7.ext hx13
  have X19 := Ext.refl H12
  have hr15 := ho14.rd.le (le_X (le_OR (Le.refl _)) (le_OR (Le.refl _)))
  obtain ⟨p20, z21, cs22, hz23, hK24, hC25, hP26⟩ := RdK.ix (q := 0) hr15 sl67 (by omega) (by omega)
  obtain ⟨cs27, cs28, rfl, hK29, hK30⟩ := hK24
  obtain ⟨v31, rfl, hr32⟩ := hK29
  have hm33 := hr32.max
  obtain ⟨v34, rfl, hr35⟩ := hK30
  have hm36 := hr35.max
  refine AL.val rfl (.inl rfl) (hP26 rfl rfl) ?_
  refine AL.val rfl (.inl rfl) (HV.fa fl73_1 rfl) ?_
  refine AL.val rfl (.inl rfl) (HV.ld rfl va22 (cells_at hC25 rfl)) ?_
  refine AL.val rfl (.inl rfl) (HV.as rfl) ?_
  refine AL.nx ?_
  refine AW.rs ?_
  have hall : z21.2 = allV n l := by unfold allV; rw [gd (j := 0) hz23 rfl]
  have hallL : z21.2.length = n.toNat := by rw [hall]; exact hAL.1
  refine AL.val rfl (.inl rfl) (HV.fa fl30_2 rfl) ?_
  refine AL.val rfl (.inl rfl) (HV.ld rfl va28 (at_cell_add hb18 rfl)) ?_
  refine AL.val rfl (.inl rfl) (HV.len Try.underlying28 rfl hr.isSl) ?_
  refine AL.val rfl (.inl rfl) (HV.as rfl) ?_
  refine AL.nx ?_
  refine AW.seq ?_
  refine AW.rs ?_
  refine AL.val rfl (.inl rfl) (HV.lda (cs := [.int .i64 n, vs, v]) rfl va30 (at_cells hb18 rfl)) ?_
  refine AL.val rfl (.inl rfl) (HV.mv rfl) ?_
  refine AL.w rfl (.inl rfl) (WV.call fn48 rfl (sights_ok (g := g) n (hs.ext X16) (hr.ext X16) (bitN g) (bit_128 hs7 hgr_) (grp_of hs7 hgr_) hok hin)) ?_
  rintro v37 H38 ⟨hx39, ho40⟩
  have X42 := Ext.trans X16 hx39
  have X43 := Ext.trans X17 hx39
  have X44 := Ext.trans X19 hx39
  have hb45 := hb18.ext hx39
  have X46 := Ext.refl H38
  have hr41 := ho40.rd.le (le_X (le_OR (Le.refl _)) (le_OR (Le.refl _)))
  refine AL.val rfl (.inl rfl) (HV.len Try.underlying67 rfl hr41.isSl) ?_
  refine AL.val rfl (.inl rfl) (HV.mv rfl) ?_
  refine AL.nx ?_
  refine AW.block ?_
  refine AW.loop (σ := Nat) (fun i => [(5, v34), (6, .int .i64 (l.length : Int)), (22, v37), (23, .int .i64 ((seeV n g l l.length).length : Int)), (24, .int .i64 (i : Int))]) (fun i H' => Ext H H' ∧ Ext H4 H' ∧ Ext H12 H' ∧ Ext H38 H' ∧ At W H' b3 ⟨30, [.int .i64 n, vs, v], 3⟩ ∧ i ≤ (seeV n g l l.length).length ∧ (∀ k, k < i → ∀ q, q < (allV n l).length → ((seeV n g l l.length).getD k ([], [])).2.getD q 0 * (l.length : Int) = sumL ((seeV n g l l.length).getD k ([], [])).2 * (allV n l).getD q 0) ∧ True) (fun i => (seeV n g l l.length).length - i) 0 ⟨X42, X43, X44, X46, hb45, Nat.zero_le _, fun j hj => absurd hj (Nat.not_lt_zero _), trivial⟩ ⟨rfl, rfl, rfl, rfl, rfl, trivial⟩ ?_
  rintro i H47 ⟨X48, X49, X50, X51, hb52, hi, hh, _⟩
  refine AW.rs ?_
  refine AL.val rfl (.inl rfl) (HV.lti rfl rfl) ?_
  refine AL.nx ?_
  refine AW.seq ?_
  refine AW.ifd rfl (fun c53 => ?_) (fun c53 => ?_)
  · -- then
    refine AW.skip ?_
    refine nrm_and ?_
    refine AW.seq ?_
    refine AW.block ?_
    refine AW.rs ?_
    obtain ⟨p54, z55, cs56, hz57, hK58, hC59, hP60⟩ := RdK.ix (q := (i : Int)) hr41 sl67 (by omega) (by omega)
    obtain ⟨cs61, cs62, rfl, hK63, hK64⟩ := hK58
    obtain ⟨v65, rfl, hr66⟩ := hK63
    have hm67 := hr66.max
    obtain ⟨v68, rfl, hr69⟩ := hK64
    have hm70 := hr69.max
    refine AL.val rfl (.inl rfl) (hP60 rfl rfl) ?_
    have hcl := hse.cl _ (List.mem_of_getElem? hz57)
    have hnn := see_nn hok _ (List.mem_of_getElem? hz57)
    have hsb := sumL_bd (B := 700) (by decide) hnn
    have hgy : (seeV n g l l.length).getD i ([], []) = z55 := gd hz57 rfl
    refine AL.val rfl (.inl rfl) (HV.lda (cs := [v65, v68]) rfl va73 (hC59.ext X51)) ?_
    refine AL.w rfl (.inl rfl) (WV.al ze73 rfl) ?_
    rintro _ H72 ⟨b71, rfl, hx73, hn74, hb75⟩
    have o76 := Nat.le_trans X48.bd hn74
    have o77 := Nat.le_trans X49.bd hn74
    have o78 := Nat.le_trans X50.bd hn74
    have o79 := Nat.le_trans X51.bd hn74
    have ne80 : b3 ≠ b71 := by have := hb52.lt; omega
    have X81 := Ext.trans X48 hx73
    have X82 := Ext.trans X49 hx73
    have X83 := Ext.trans X50 hx73
    have X84 := Ext.trans X51 hx73
    have hb85 := hb52.ext hx73
    have X86 := Ext.refl H72
    refine AL.w0 (.inl rfl) (WV.st rfl rfl va73 rfl hb75 (Nat.le_of_ble_eq_true rfl) (one_cons (sl_one1 (hr66.ext X84).isSl) (one_cons (sl_one1 (hr69.ext X84).isSl) one_nil))) ?_
    rintro _ H87 ⟨hx88, hb89⟩
    have X90 := Ext.thru X81 hx88 (fun z_ hz_ => by rw [hz_]; exact o76)
    have X91 := Ext.thru X82 hx88 (fun z_ hz_ => by rw [hz_]; exact o77)
    have X92 := Ext.thru X83 hx88 (fun z_ hz_ => by rw [hz_]; exact o78)
    have X93 := Ext.thru X84 hx88 (fun z_ hz_ => by rw [hz_]; exact o79)
    have hb95 := hb85.but hx88 ne80
    have hb96 : At W H87 b71 ⟨73, [v65, v68], 2⟩ := hb89
    refine AL.nx ?_
    refine AW.rs ?_
    refine AL.val rfl (.inl rfl) (HV.fa fl73_1 rfl) ?_
    refine AL.val rfl (.inl rfl) (HV.ld rfl va22 (at_cell_add hb96 rfl)) ?_
    refine AL.w rfl (.inl rfl) (WV.call fn79 rfl (sum_ok (hr69.ext X93) hnn (by omega))) ?_
    rintro _ H97 ⟨rfl, hx98⟩
    have X99 := Ext.trans X90 hx98
    have X100 := Ext.trans X91 hx98
    have X101 := Ext.trans X92 hx98
    have X102 := Ext.trans X93 hx98
    have hb103 := hb95.ext hx98
    have hb104 := hb96.ext hx98
    refine AL.val rfl (.inl rfl) (HV.as rfl) ?_
    refine AL.nx ?_
    refine AW.rs ?_
    refine AL.val rfl (.inl rfl) (HV.fa fl73_1 rfl) ?_
    refine AL.val rfl (.inl rfl) (HV.ld rfl va22 (at_cell_add hb104 rfl)) ?_
    refine AL.val rfl (.inl rfl) (HV.len Try.underlying22 rfl hr69.isSl) ?_
    refine AL.val rfl (.inl rfl) (HV.mv rfl) ?_
    refine AL.nx ?_
    refine AW.block ?_
    have X105 := Ext.refl H97
    refine AW.loop (σ := Nat) (fun j => [(5, v34), (6, .int .i64 (l.length : Int)), (8, .pointer (some ⟨b71, 0, none⟩)), (9, .int .i64 (sumL z55.2)), (22, v37), (23, .int .i64 ((seeV n g l l.length).length : Int)), (24, .int .i64 (i : Int)), (25, .bool (decide ((i : Int) < ((seeV n g l l.length).length : Int)))), (26, .pointer (some p54)), (27, .agg #[v65, v68]), (28, .pointer (some ⟨b71, 1, none⟩)), (29, v68), (30, .int .i64 (sumL z55.2)), (31, .pointer (some ⟨b71, 1, none⟩)), (32, v68), (33, .int .i64 (z55.2.length : Int)), (34, .int .i64 (j : Int))]) (fun j H' => Ext H H' ∧ Ext H4 H' ∧ Ext H12 H' ∧ Ext H38 H' ∧ Ext H97 H' ∧ At W H' b3 ⟨30, [.int .i64 n, vs, v], 3⟩ ∧ At W H' b71 ⟨73, [v65, v68], 2⟩ ∧ j ≤ z55.2.length ∧ (∀ q, q < j → z55.2.getD q 0 * (l.length : Int) = sumL z55.2 * (allV n l).getD q 0) ∧ True) (fun j => z55.2.length - j) 0 ⟨X99, X100, X101, X102, X105, hb103, hb104, Nat.zero_le _, fun j hj => absurd hj (Nat.not_lt_zero _), trivial⟩ ⟨rfl, rfl, rfl, rfl, rfl, rfl, rfl, rfl, rfl, rfl, rfl, rfl, rfl, rfl, rfl, rfl, rfl, trivial⟩ ?_
    rintro j H106 ⟨X107, X108, X109, X110, X111, hb112, hb113, hj, hrw, _⟩
    refine AW.rs ?_
    refine AL.val rfl (.inl rfl) (HV.lti rfl rfl) ?_
    refine AL.nx ?_
    refine AW.seq ?_
    refine AW.ifd rfl (fun c114 => ?_) (fun c114 => ?_)
    · -- then
      refine AW.skip ?_
      refine nrm_and ?_
      refine AW.seq ?_
      refine AW.block ?_
      refine AW.rs ?_
      refine AL.val rfl (.inl rfl) (HV.mv rfl) ?_
      obtain ⟨p115, z116, cs117, hz118, hK119, hC120, hP121⟩ := RdK.ix (q := (j : Int)) hr69 sl22 (by omega) (by omega)
      obtain rfl : cs117 = [.int .i64 z116] := hK119
      refine AL.val rfl (.inl rfl) (hP121 rfl rfl) ?_
      refine AL.val rfl (.inl rfl) (HV.ld rfl va2 (cells_first (hC120.ext X110) rfl)) ?_
      refine AL.val rfl (.inl rfl) (HV.as rfl) ?_
      refine AL.val rfl (.inl rfl) (HV.as rfl) ?_
      refine AL.nx ?_
      refine AW.rs ?_
      refine AL.val rfl (.inl rfl) (HV.mv rfl) ?_
      refine AL.val rfl (.inl rfl) (HV.mv rfl) ?_
      refine AL.val rfl (.inl rfl) (HV.mul rfl rfl (mul_in (hnn _ (List.mem_of_getElem? hz118)) (by omega))) ?_
      refine AL.val rfl (.inl rfl) (HV.mv rfl) ?_
      refine AL.val rfl (.inl rfl) (HV.mv rfl) ?_
      refine AL.val rfl (.inl rfl) (HV.mv rfl) ?_
      obtain ⟨p122, z123, cs124, hz125, hK126, hC127, hP128⟩ := RdK.ix (q := (j : Int)) hr35 sl22 (by omega) (by omega)
      obtain rfl : cs124 = [.int .i64 z123] := hK126
      refine AL.val rfl (.inl rfl) (hP128 rfl rfl) ?_
      refine AL.val rfl (.inl rfl) (HV.ld rfl va2 (cells_first (hC127.ext X109) rfl)) ?_
      refine AL.val rfl (.inl rfl) (HV.mul rfl rfl (by have q := List.mem_of_getElem? hz125; rw [hall] at q; have q2 := mul_in (hAL.2 _ q) (b := sumL z55.2) (by have := hsb; omega); rw [Int.mul_comm] at q2; exact q2)) ?_
      refine AL.val rfl (.inl rfl) (HV.nei rfl rfl) ?_
      refine AL.nx ?_
      refine AW.ifd rfl (fun c129 => ?_) (fun c129 => ?_)
      · -- then
        refine AW.rs ?_
        refine AL.val rfl (.inl rfl) (HV.as rfl) ?_
        refine AL.nx ?_
        refine AW.ret ?_
        refine ret_blk (ret_and (ret_and (ret_blk (ret_blk (ret_and (ret_and (ret_blk (ret_and ?_))))))))
        refine post_one rfl rfl ?_ (.inr rfl)
        exact ⟨dec_f (fun h => by have q := h _ (List.mem_of_getElem? hz57) j (by omega); rw [← hall, gd hz118 rfl, gd hz125 rfl] at q; exact c129 q), X107⟩
      · -- else
        refine AW.skip ?_
        refine nrm_blk (nrm_and ?_)
        refine AW.reg ?_
        refine AL.val rfl (.inl rfl) (HV.add rfl rfl (by omega)) ?_
        refine AL.val rfl (.inl rfl) (HV.mv rfl) ?_
        refine AL.nil ?_
        refine nrm_and ?_
        exact ⟨j + 1, ⟨X107, X108, X109, X110, X111, hb112, hb113, by omega, fun q hq => (Nat.lt_or_ge q j).elim (hrw q) (fun h1 => by rw [show q = j by omega, ← hall, gd hz118 rfl, gd hz125 rfl]; have q9 := c129; omega), trivial⟩, by first | omega | (dsimp only; omega), ⟨rfl, rfl, rfl, rfl, rfl, rfl, rfl, rfl, rfl, rfl, rfl, rfl, rfl, rfl, rfl, rfl, rfl, trivial⟩⟩
    · -- else
      refine AW.exit ?_
      refine ex_and (ex_and (ex_blk ?_))
      refine nrm_blk (nrm_and ?_)
      refine AW.reg ?_
      refine AL.val rfl (.inl rfl) (HV.add rfl rfl (by omega)) ?_
      refine AL.val rfl (.inl rfl) (HV.mv rfl) ?_
      refine AL.nil ?_
      refine nrm_and ?_
      exact ⟨i + 1, ⟨X107, X108, X109, X110, hb112, by omega, fun k hk => (Nat.lt_or_ge k i).elim (hh k) (fun h1 => by rw [show k = i by omega, hgy]; intro q hq; exact hrw q (by omega)), trivial⟩, by first | omega | (dsimp only; omega), ⟨rfl, rfl, rfl, rfl, rfl, trivial⟩⟩
  · -- else
    refine AW.exit ?_
    refine ex_and (ex_and (ex_blk ?_))
    refine nrm_and ?_
    refine AW.rs ?_
    refine AL.val rfl (.inl rfl) (HV.as rfl) ?_
    refine AL.nx ?_
    refine AW.ret ?_
    refine post_one rfl rfl ?_ (.inr rfl)
    exact ⟨dec_t (fun e he => by obtain ⟨k, hk, rfl⟩ := List.getElem_of_mem he; have := hh k (by omega); simpa [hk] using this), X48⟩

set_option maxRecDepth 100000 in
theorem specTH_ok {vs v : Value} {s : List Int} {l : List (Int × List Int)} {oks ok : Nat → Prop} (n : Int) (hs : RdK kI W H oks vs s) (hr : RdK (kP kI (kR kI)) W H ok v l) {vg : Value} {g : List Int} {okg : Nat → Prop} (hgr : RdK kI W H okg vg g) : ACalls Try.prog W 21 #[.agg #[.int .i64 n, vs, v], vg] H (fun r H' => r = .tuple #[.bool (decide (codeT n s l g = 0 ∧ hideV (seeV n g l l.length) (allV n l) (l.length : Int))), .int .i64 (codeT n s l g)] ∧ Ext H H') := by
  refine ACalls.of (args := [.agg #[.int .i64 n, vs, v], vg]) Try.func21 rfl rfl ?_
  have X0 := Ext.refl H
  have hm1 := hs.max
  have hm2 := hr.max
  have hm3 := hgr.max
  refine AW.rs ?_
  refine AL.w rfl (.inl rfl) (WV.bx rfl rfl) ?_
  rintro _ H5 ⟨b4, rfl, hx6, hn7, hb8⟩
  have o9 := Nat.le_trans X0.bd hn7
  have X10 := Ext.trans X0 hx6
  have X11 := Ext.refl H5
  refine AL.val rfl (.inl rfl) (HV.as rfl) ?_
  refine AL.val rfl (.inl rfl) (HV.as rfl) ?_
  refine AL.nx ?_
  refine AW.seq ?_
  refine AW.rs ?_
  refine AL.val rfl (.inl rfl) (HV.mv rfl) ?_
  refine AL.w rfl (.inl rfl) (WV.call fn45 rfl (l06Asked_ok (hs.ext X10) (hr.ext X10) hb8 (hgr.ext X10))) ?_
  rintro _ H12 ⟨rfl, hx13⟩
  have X14 := Ext.trans X10 hx13
  have X15 := Ext.trans X11 hx13
  have hb16 := hb8.ext hx13
  refine AL.val rfl (.inl rfl) (HV.as rfl) ?_
  refine AL.nx ?_
  refine AW.rs ?_
  refine AL.val rfl (.inl rfl) (HV.mv rfl) ?_
  refine AL.val rfl (.inl rfl) (HV.nei rfl rfl) ?_
  refine AL.nx ?_
  refine AW.ifd rfl (fun c17 => ?_) (fun c17 => ?_)
  · -- then
    refine AW.rs ?_
    refine AL.val rfl (.inl rfl) (HV.mv rfl) ?_
    refine AL.val rfl (.inl rfl) (HV.as rfl) ?_
    refine AL.val rfl (.inl rfl) (HV.as rfl) ?_
    refine AL.nx ?_
    refine AW.ret ?_
    refine ret_and ?_
    refine post_two rfl rfl rfl ?_ (.inr rfl)
    have hne := c17; exact ⟨by rw [decide_eq_false (fun h => hne h.1)], X14⟩
  · -- else
    refine AW.skip ?_
    refine nrm_and ?_
    refine AW.rs ?_
    have hcd : codeT n s l g = 0 := (by omega)
    have hok := (code0.1 hcd).1
    have hgr_ := (code0.1 hcd).2
    have hs7 := hok.1.2.1
    have hg7 := ris_len hs7 hgr_
    have hin := grp_in hgr_
    refine AL.val rfl (.inl rfl) (HV.mv rfl) ?_
    refine AL.w rfl (.inl rfl) (WV.call fn53 rfl (hidesT_ok (hs.ext X14) (hr.ext X14) hb16 (hgr.ext X14) hok hgr_)) ?_
    rintro _ H18 ⟨rfl, hx19⟩
    have X20 := Ext.trans X14 hx19
    have X21 := Ext.trans X15 hx19
    have hb22 := hb16.ext hx19
    refine AL.val rfl (.inl rfl) (HV.as rfl) ?_
    refine AL.val rfl (.inl rfl) (HV.as rfl) ?_
    refine AL.nx ?_
    refine AW.ret ?_
    refine post_two rfl rfl rfl ?_ (.inr rfl)
    exact ⟨by rw [hcd]; exact congrArg (fun z => Value.tuple #[.bool z, .int .i64 0]) (decide_eq_decide.2 ⟨fun h => ⟨rfl, h⟩, fun h => h.2⟩), X20⟩

set_option maxRecDepth 100000 in
theorem implTH_ok {vs v : Value} {s : List Int} {l : List (Int × List Int)} {oks ok : Nat → Prop} (n : Int) (hs : RdK kI W H oks vs s) (hr : RdK (kP kI (kR kI)) W H ok v l) {vg : Value} {g : List Int} {okg : Nat → Prop} (hgr : RdK kI W H okg vg g) : ACalls Try.prog W 22 #[.agg #[.int .i64 n, vs, v], vg] H (fun r H' => r = .tuple #[.bool (decide (codeT n s l g = 0 ∧ hideV (seeV n g l l.length) (allV n l) (l.length : Int))), .int .i64 (codeT n s l g)] ∧ Ext H H') := by
  refine ACalls.of (args := [.agg #[.int .i64 n, vs, v], vg]) Try.func22 rfl rfl ?_
  have X0 := Ext.refl H
  have hm1 := hs.max
  have hm2 := hr.max
  have hm3 := hgr.max
  refine AW.rs ?_
  refine AL.w rfl (.inl rfl) (WV.bx rfl rfl) ?_
  rintro _ H5 ⟨b4, rfl, hx6, hn7, hb8⟩
  have o9 := Nat.le_trans X0.bd hn7
  have X10 := Ext.trans X0 hx6
  have X11 := Ext.refl H5
  refine AL.val rfl (.inl rfl) (HV.as rfl) ?_
  refine AL.val rfl (.inl rfl) (HV.as rfl) ?_
  refine AL.nx ?_
  refine AW.seq ?_
  refine AW.rs ?_
  refine AL.val rfl (.inl rfl) (HV.lda (cs := [.int .i64 n, vs, v]) rfl va30 (at_cells hb8 rfl)) ?_
  refine AL.val rfl (.inl rfl) (HV.mv rfl) ?_
  refine AL.w rfl (.inl rfl) (WV.call fn47 rfl (tableCode_ok n (hs.ext X10) (hr.ext X10) (hgr.ext X10))) ?_
  rintro _ H12 ⟨rfl, hx13⟩
  have X14 := Ext.trans X10 hx13
  have X15 := Ext.trans X11 hx13
  have hb16 := hb8.ext hx13
  refine AL.val rfl (.inl rfl) (HV.as rfl) ?_
  refine AL.nx ?_
  refine AW.rs ?_
  refine AL.val rfl (.inl rfl) (HV.mv rfl) ?_
  refine AL.val rfl (.inl rfl) (HV.nei rfl rfl) ?_
  refine AL.nx ?_
  refine AW.ifd rfl (fun c17 => ?_) (fun c17 => ?_)
  · -- then
    refine AW.rs ?_
    refine AL.val rfl (.inl rfl) (HV.mv rfl) ?_
    refine AL.val rfl (.inl rfl) (HV.as rfl) ?_
    refine AL.val rfl (.inl rfl) (HV.as rfl) ?_
    refine AL.nx ?_
    refine AW.ret ?_
    refine ret_and ?_
    refine post_two rfl rfl rfl ?_ (.inr rfl)
    have hne := c17; exact ⟨by rw [decide_eq_false (fun h => hne h.1)], X14⟩
  · -- else
    refine AW.skip ?_
    refine nrm_and ?_
    refine AW.seq ?_
    refine AW.draw' [0, 0, 2, 7, 15, 31] mixed (by rfl) ?_
    have hcd : codeT n s l g = 0 := (by omega)
    have hok := (code0.1 hcd).1
    have hgr_ := (code0.1 hcd).2
    have hs7 := hok.1.2.1
    have hg7 := ris_len hs7 hgr_
    have hin := grp_in hgr_
    refine Dr.read 0 _ 13 _ rfl rfl rfl rfl rfl (RV.of (by intro _ _ h; cases h) (.inl rfl) (fun _ xd => HV.lda (cs := [.int .i64 n, vs, v]) rfl va30 (fun j u hu => rdc_ext xd ((at_cells hb16 rfl) j u hu)))) ?_
    refine Dr.read 1 _ 14 _ rfl rfl rfl rfl rfl (RV.of (by intro _ _ h; cases h) (.inl rfl) (fun _ xd => HV.mv rfl)) ?_
    refine Dr.eff 2 _ _ rfl (by intro d h; cases h; exact ⟨rfl, rfl⟩) rfl rfl rfl (EC.of (by intro _ _ h; cases h) (.inl rfl) (WV.call fn49 rfl (crowdOf_ok (hgr.ext X14) (fun x hx => by have := hin x hx; omega)))) (fun v H' h => .inl (h.2)) ?_
    rintro _ H18 ⟨rfl, hx19⟩
    rw [(bits_nat hs7 hgr_).2.1]
    have X20 := Ext.trans X14 hx19
    have X21 := Ext.trans X15 hx19
    have hb22 := hb16.ext hx19
    refine Dr.eff 3 _ _ rfl (by intro d h; cases h; exact ⟨rfl, rfl⟩) rfl rfl rfl (EC.of (by intro _ _ h; cases h) (.inl rfl) (WV.call fn54 rfl (hidesI_ok n (hs.ext X20) (hr.ext X20) hok hgr_))) (fun v H' h => .inl (h.2)) ?_
    rintro _ H23 ⟨rfl, hx24⟩
    have X25 := Ext.trans X20 hx24
    have X26 := Ext.trans X21 hx24
    have hb27 := hb22.ext hx24
    refine Dr.read 4 _ 4 _ rfl rfl rfl rfl rfl (RV.of (by intro _ _ h; cases h) (.inl rfl) (fun _ xd => HV.as rfl)) ?_
    refine Dr.read 5 _ 5 _ rfl rfl rfl rfl rfl (RV.of (by intro _ _ h; cases h) (.inl rfl) (fun _ xd => HV.as rfl)) ?_
    refine Dr.fin rfl ?_
    refine nrm_and ?_
    refine AW.ret ?_
    refine post_two rfl rfl rfl ?_ (.inr rfl)
    exact ⟨by rw [hcd]; exact congrArg (fun z => Value.tuple #[.bool z, .int .i64 0]) (decide_eq_decide.2 ⟨fun h => ⟨rfl, h⟩, fun h => h.2⟩), X25⟩

set_option maxRecDepth 100000 in
theorem law_TableHides {vs v : Value} {s : List Int} {l : List (Int × List Int)} {oks ok : Nat → Prop} (n : Int) (hs : RdK kI W H oks vs s) (hr : RdK (kP kI (kR kI)) W H ok v l) {vg : Value} {g : List Int} {okg : Nat → Prop} (hgr : RdK kI W H okg vg g) : ACalls Try.prog W 6 #[.agg #[.int .i64 n, vs, v], vg] H (fun r H' => r = .bool true ∧ Ext H H') := by
  refine ACalls.of (args := [.agg #[.int .i64 n, vs, v], vg]) Try.func6 rfl rfl ?_
  have X0 := Ext.refl H
  have hm1 := hs.max
  have hm2 := hr.max
  have hm3 := hgr.max
  refine AW.rs ?_
  refine AL.w rfl (.inl rfl) (WV.bx rfl rfl) ?_
  rintro _ H5 ⟨b4, rfl, hx6, hn7, hb8⟩
  have o9 := Nat.le_trans X0.bd hn7
  have X10 := Ext.trans X0 hx6
  have X11 := Ext.refl H5
  refine AL.val rfl (.inl rfl) (HV.as rfl) ?_
  refine AL.nx ?_
  refine AW.seq ?_
  refine AW.rs ?_
  refine AL.val rfl (.inl rfl) (HV.mv rfl) ?_
  refine AL.val rfl (.inl rfl) (HV.len Try.underlying22 rfl hgr.isSl) ?_
  refine AL.val rfl (.inl rfl) (HV.gti rfl rfl) ?_
  refine AL.nx ?_
  refine AW.ifd rfl (fun c12 => ?_) (fun c12 => ?_)
  · -- then
    refine AW.rs ?_
    refine AL.val rfl (.inl rfl) (HV.as rfl) ?_
    refine AL.nx ?_
    refine AW.ret ?_
    refine ret_and ?_
    refine post_one rfl rfl ?_ (.inr rfl)
    exact ⟨rfl, X10⟩
  · -- else
    refine AW.skip ?_
    refine nrm_and ?_
    refine AW.rs ?_
    refine AL.val rfl (.inl rfl) (HV.as rfl) ?_
    refine AL.nx ?_
    refine AW.rs ?_
    refine AL.val rfl (.inl rfl) (HV.lda (cs := [.int .i64 n, vs, v]) rfl va25 (at_cells hb8 rfl)) ?_
    refine AL.val rfl (.inl rfl) (HV.mv rfl) ?_
    refine AL.w rfl (.inl rfl) (WV.call fn10 rfl (szTable_ok n (hs.ext X10) (hr.ext X10) 1048576 (by omega))) ?_
    rintro _ H13 ⟨⟨q15, rfl, ha16, hb17, he18⟩, hx14⟩
    have X19 := Ext.trans X10 hx14
    have X20 := Ext.trans X11 hx14
    have hb21 := hb8.ext hx14
    refine AL.val rfl (.inl rfl) (HV.as rfl) ?_
    refine AL.nx ?_
    refine AW.seq ?_
    refine AW.rs ?_
    refine AL.val rfl (.inl rfl) (HV.mv rfl) ?_
    refine AL.val rfl (.inl rfl) (HV.lti rfl rfl) ?_
    refine AL.nx ?_
    refine AW.ifd rfl (fun c22 => ?_) (fun c22 => ?_)
    · -- then
      refine AW.rs ?_
      refine AL.val rfl (.inl rfl) (HV.as rfl) ?_
      refine AL.nx ?_
      refine AW.ret ?_
      refine ret_and ?_
      refine post_one rfl rfl ?_ (.inr rfl)
      exact ⟨rfl, X19⟩
    · -- else
      refine AW.skip ?_
      refine nrm_and ?_
      refine AW.rs ?_
      refine AL.val rfl (.inl rfl) (HV.lda (cs := [.int .i64 n, vs, v]) rfl va25 (at_cells hb21 rfl)) ?_
      refine AL.w rfl (.inl rfl) (WV.call fn12 rfl (toTable_ok n (hs.ext X19) (hr.ext X19) (he18 (by omega)).1 (he18 (by omega)).2)) ?_
      rintro _ H25 ⟨⟨u23, v24, rfl, ho27, ho28⟩, hx26⟩
      have X31 := Ext.trans X19 hx26
      have X32 := Ext.trans X20 hx26
      have hb33 := hb21.ext hx26
      have X34 := Ext.refl H25
      have hr29 := ho27.rd
      have hr30 := ho28.rd.le (le_P (Le.refl _) (le_OR (Le.refl _)))
      refine AL.val rfl (.inl rfl) (HV.mv rfl) ?_
      refine AL.w rfl (.inl rfl) (WV.call fn18 rfl (toS_ok (hgr.ext X31) (by omega))) ?_
      rintro v35 H36 ⟨hx37, ho38⟩
      have X40 := Ext.trans X31 hx37
      have X41 := Ext.trans X32 hx37
      have X42 := Ext.trans X34 hx37
      have hb43 := hb33.ext hx37
      have X44 := Ext.refl H36
      have hr39 := ho38.rd
      refine AL.w rfl (.inl rfl) (WV.call fn21 rfl (specTH_ok n (hr29.ext X42) (hr30.ext X42) hr39)) ?_
      rintro _ H45 ⟨rfl, hx46⟩
      have X47 := Ext.trans X40 hx46
      have X48 := Ext.trans X41 hx46
      have X49 := Ext.trans X42 hx46
      have X50 := Ext.trans X44 hx46
      have hb51 := hb43.ext hx46
      refine AL.val rfl (.inl rfl) (HV.mv rfl) ?_
      refine AL.val rfl (.inl rfl) (HV.ex rfl rfl) ?_
      refine AL.val rfl (.inl rfl) (HV.ex rfl rfl) ?_
      refine AL.val rfl (.inl rfl) (HV.as rfl) ?_
      refine AL.val rfl (.inl rfl) (HV.as rfl) ?_
      refine AL.nx ?_
      refine AW.rs ?_
      refine AL.val rfl (.inl rfl) (HV.lda (cs := [.int .i64 n, vs, v]) rfl va25 (at_cells hb51 rfl)) ?_
      refine AL.w rfl (.inl rfl) (WV.call fn12 rfl (toTable_ok n (hs.ext X47) (hr.ext X47) (he18 (by omega)).1 (he18 (by omega)).2)) ?_
      rintro _ H54 ⟨⟨u52, v53, rfl, ho56, ho57⟩, hx55⟩
      have X60 := Ext.trans X47 hx55
      have X61 := Ext.trans X48 hx55
      have X62 := Ext.trans X49 hx55
      have X63 := Ext.trans X50 hx55
      have hb64 := hb51.ext hx55
      have X65 := Ext.refl H54
      have hr58 := ho56.rd
      have hr59 := ho57.rd.le (le_P (Le.refl _) (le_OR (Le.refl _)))
      refine AL.w rfl (.inl rfl) (WV.al ze30 rfl) ?_
      rintro _ H67 ⟨b66, rfl, hx68, hn69, hb70⟩
      have o71 := Nat.le_trans X60.bd hn69
      have o72 := Nat.le_trans X61.bd hn69
      have o73 := Nat.le_trans X62.bd hn69
      have o74 := Nat.le_trans X63.bd hn69
      have o75 := Nat.le_trans X65.bd hn69
      have ne76 : b4 ≠ b66 := by have := hb64.lt; omega
      have X77 := Ext.trans X60 hx68
      have X78 := Ext.trans X61 hx68
      have X79 := Ext.trans X62 hx68
      have X80 := Ext.trans X63 hx68
      have X81 := Ext.trans X65 hx68
      have hb82 := hb64.ext hx68
      have X83 := Ext.refl H67
      refine AL.w0 (.inl rfl) (WV.st rfl rfl va30 rfl hb70 (Nat.le_of_ble_eq_true rfl) (one_cons rfl (one_cons (sl_one1 (hr58.ext X81).isSl) (one_cons (sl_one1 (hr59.ext X81).isSl) one_nil)))) ?_
      rintro _ H84 ⟨hx85, hb86⟩
      have X87 := Ext.thru X77 hx85 (fun z_ hz_ => by rw [hz_]; exact o71)
      have X88 := Ext.thru X78 hx85 (fun z_ hz_ => by rw [hz_]; exact o72)
      have X89 := Ext.thru X79 hx85 (fun z_ hz_ => by rw [hz_]; exact o73)
      have X90 := Ext.thru X80 hx85 (fun z_ hz_ => by rw [hz_]; exact o74)
      have X91 := Ext.thru X81 hx85 (fun z_ hz_ => by rw [hz_]; exact o75)
      have hb93 := hb82.but hx85 ne76
      have hb94 : At W H84 b66 ⟨30, [.int .i64 n, u52, v53], 3⟩ := hb86
      refine AL.nx ?_
      refine AW.rs ?_
      refine AL.val rfl (.inl rfl) (HV.mv rfl) ?_
      refine AL.w rfl (.inl rfl) (WV.call fn18 rfl (toS_ok (hgr.ext X87) (by omega))) ?_
      rintro v95 H96 ⟨hx97, ho98⟩
      have X100 := Ext.trans X87 hx97
      have X101 := Ext.trans X88 hx97
      have X102 := Ext.trans X89 hx97
      have X103 := Ext.trans X90 hx97
      have X104 := Ext.trans X91 hx97
      have hb105 := hb93.ext hx97
      have hb106 := hb94.ext hx97
      have X107 := Ext.refl H96
      have hr99 := ho98.rd
      refine AL.val rfl (.inl rfl) (HV.as rfl) ?_
      refine AL.nx ?_
      refine AW.rs ?_
      refine AL.val rfl (.inl rfl) (HV.lda (cs := [.int .i64 n, u52, v53]) rfl va30 (at_cells hb106 rfl)) ?_
      refine AL.val rfl (.inl rfl) (HV.mv rfl) ?_
      refine AL.w rfl (.inl rfl) (WV.call fn22 rfl (implTH_ok n (hr58.ext X104) (hr59.ext X104) hr99)) ?_
      rintro _ H108 ⟨rfl, hx109⟩
      have X110 := Ext.trans X100 hx109
      have X111 := Ext.trans X101 hx109
      have X112 := Ext.trans X102 hx109
      have X113 := Ext.trans X103 hx109
      have X114 := Ext.trans X104 hx109
      have X115 := Ext.trans X107 hx109
      have hb116 := hb105.ext hx109
      have hb117 := hb106.ext hx109
      refine AL.val rfl (.inl rfl) (HV.mv rfl) ?_
      refine AL.val rfl (.inl rfl) (HV.ex rfl rfl) ?_
      refine AL.val rfl (.inl rfl) (HV.ex rfl rfl) ?_
      refine AL.val rfl (.inl rfl) (HV.as rfl) ?_
      refine AL.val rfl (.inl rfl) (HV.as rfl) ?_
      refine AL.nx ?_
      refine AW.seq ?_
      refine AW.rs ?_
      refine AL.val rfl (.inl rfl) (HV.mv rfl) ?_
      refine AL.val rfl (.inl rfl) (HV.mv rfl) ?_
      refine AL.val rfl (.inl rfl) (HV.neb Try.underlying4 rfl rfl) ?_
      refine AL.val rfl (.inl rfl) (HV.mv rfl) ?_
      cases c118 : !(decide ((codeT n s l g) = 0 ∧ hideV (seeV n g l (l).length) (allV n l) ((l).length : Int)) == decide ((codeT n s l g) = 0 ∧ hideV (seeV n g l (l).length) (allV n l) ((l).length : Int)))
      · -- false
        refine AL.val rfl (.inr ⟨_, _, _, rfl, rfl, rfl⟩) (HV.mv rfl) ?_
        refine AL.val rfl (.inr ⟨_, _, _, rfl, rfl, rfl⟩) (HV.mv rfl) ?_
        refine AL.val rfl (.inr ⟨_, _, _, rfl, rfl, rfl⟩) (HV.nei rfl rfl) ?_
        refine AL.val rfl (.inl rfl) (HV.pickF rfl rfl) ?_
        refine AL.nx ?_
        refine AW.ifd rfl (fun c119 => ?_) (fun c119 => ?_)
        · -- then
          refine AW.rs ?_
          refine AL.val rfl (.inl rfl) (HV.as rfl) ?_
          refine AL.nx ?_
          refine AW.ret ?_
          refine ret_and ?_
          refine post_one rfl rfl ?_ (.inr rfl)
          exact absurd c119 (by simp)
        · -- else
          refine AW.skip ?_
          refine nrm_and ?_
          refine AW.seq ?_
          refine AW.seq ?_
          refine AW.draw' [0, 0, 2, 7, 15] mixed (by rfl) ?_
          refine Dr.read 0 _ 46 _ rfl rfl rfl rfl rfl (RV.of (by intro _ _ h; cases h) (.inl rfl) (fun _ xd => HV.lda (cs := [.int .i64 n, u52, v53]) rfl va30 (fun j u hu => rdc_ext xd ((at_cells hb117 rfl) j u hu)))) ?_
          refine Dr.read 1 _ 47 _ rfl rfl rfl rfl rfl (RV.of (by intro _ _ h; cases h) (.inl rfl) (fun _ xd => HV.lda (cs := [.int .i64 n, vs, v]) rfl va25 (fun j u hu => rdc_ext xd ((at_cells hb116 rfl) j u hu)))) ?_
          refine Dr.eff 2 _ _ rfl (by intro d h; cases h; exact ⟨rfl, rfl⟩) rfl rfl rfl (EC.of (by intro _ _ h; cases h) (.inl rfl) (WV.call fn12 rfl (toTable_ok n (hs.ext X110) (hr.ext X110) (he18 (by omega)).1 (he18 (by omega)).2))) (fun v H' h => .inl (h.2)) ?_
          rintro _ H122 ⟨⟨u120, v121, rfl, ho124, ho125⟩, hx123⟩
          have X128 := Ext.trans X110 hx123
          have X129 := Ext.trans X111 hx123
          have X130 := Ext.trans X112 hx123
          have X131 := Ext.trans X113 hx123
          have X132 := Ext.trans X114 hx123
          have X133 := Ext.trans X115 hx123
          have hb134 := hb116.ext hx123
          have hb135 := hb117.ext hx123
          have X136 := Ext.refl H122
          have hr126 := ho124.rd
          have hr127 := ho125.rd.le (le_P (Le.refl _) (le_OR (Le.refl _)))
          refine Dr.eff 3 _ _ rfl (by intro d h; cases h; exact ⟨rfl, rfl⟩) rfl rfl rfl (EC.of (by intro _ _ h; cases h) (.inl rfl) (WV.call fn14 rfl (eqTable_ok n n (hr58.ext X132) (hr59.ext X132) hr126 hr127))) (fun v H' h => .inl (h.2)) ?_
          rintro _ H137 ⟨rfl, hx138⟩
          have X139 := Ext.trans X128 hx138
          have X140 := Ext.trans X129 hx138
          have X141 := Ext.trans X130 hx138
          have X142 := Ext.trans X131 hx138
          have X143 := Ext.trans X132 hx138
          have X144 := Ext.trans X133 hx138
          have X145 := Ext.trans X136 hx138
          have hb146 := hb134.ext hx138
          have hb147 := hb135.ext hx138
          refine Dr.read 4 _ 50 _ rfl rfl rfl rfl rfl (RV.of (by intro _ _ h; cases h) (.inl rfl) (fun _ xd => HV.not rfl)) ?_
          refine Dr.fin rfl ?_
          refine nrm_and ?_
          refine AW.ifn rfl (fun c148 => ?_) (fun c148 => ?_)
          · -- then
            refine AW.rs ?_
            refine AL.val rfl (.inl rfl) (HV.as rfl) ?_
            refine AL.nx ?_
            refine AW.ret ?_
            refine ret_and ?_
            refine post_one rfl rfl ?_ (.inr rfl)
            exact absurd c148 (by simp)
          · -- else
            refine AW.skip ?_
            refine nrm_and ?_
            refine AW.seq ?_
            refine AW.rs ?_
            refine AL.val rfl (.inl rfl) (HV.mv rfl) ?_
            refine AL.val rfl (.inl rfl) (HV.mv rfl) ?_
            refine AL.w rfl (.inl rfl) (WV.call fn18 rfl (toS_ok (hgr.ext X139) (by omega))) ?_
            rintro v149 H150 ⟨hx151, ho152⟩
            have X154 := Ext.trans X139 hx151
            have X155 := Ext.trans X140 hx151
            have X156 := Ext.trans X141 hx151
            have X157 := Ext.trans X142 hx151
            have X158 := Ext.trans X143 hx151
            have X159 := Ext.trans X144 hx151
            have X160 := Ext.trans X145 hx151
            have hb161 := hb146.ext hx151
            have hb162 := hb147.ext hx151
            have X163 := Ext.refl H150
            have hr153 := ho152.rd
            refine AL.w rfl (.inl rfl) (WV.call fn20 rfl (eqS_ok (hr99.ext X159) hr153)) ?_
            rintro _ H164 ⟨rfl, hx165⟩
            have X166 := Ext.trans X154 hx165
            have X167 := Ext.trans X155 hx165
            have X168 := Ext.trans X156 hx165
            have X169 := Ext.trans X157 hx165
            have X170 := Ext.trans X158 hx165
            have X171 := Ext.trans X159 hx165
            have X172 := Ext.trans X160 hx165
            have X173 := Ext.trans X163 hx165
            have hb174 := hb161.ext hx165
            have hb175 := hb162.ext hx165
            refine AL.val rfl (.inl rfl) (HV.not rfl) ?_
            refine AL.nx ?_
            refine AW.ifn rfl (fun c176 => ?_) (fun c176 => ?_)
            · -- then
              refine AW.rs ?_
              refine AL.val rfl (.inl rfl) (HV.as rfl) ?_
              refine AL.nx ?_
              refine AW.ret ?_
              refine ret_and ?_
              refine post_one rfl rfl ?_ (.inr rfl)
              exact absurd c176 (by simp)
            · -- else
              refine AW.skip ?_
              refine nrm_and ?_
              refine AW.rs ?_
              refine AL.val rfl (.inl rfl) (HV.as rfl) ?_
              refine AL.nx ?_
              refine AW.ret ?_
              refine post_one rfl rfl ?_ (.inr rfl)
              exact ⟨rfl, X166⟩
      · -- true
        refine AL.off rfl rfl (by decide) rfl ?_
        refine AL.off rfl rfl (by decide) rfl ?_
        refine AL.off rfl rfl (by decide) rfl ?_
        refine AL.val rfl (.inl rfl) (HV.pickT rfl rfl) ?_
        refine AL.nx ?_
        refine AW.cond rfl (fun _ => ?_) (fun h => by cases h)
        refine AW.rs ?_
        refine AL.val rfl (.inl rfl) (HV.as rfl) ?_
        refine AL.nx ?_
        refine AW.ret ?_
        refine ret_and ?_
        refine post_one rfl rfl ?_ (.inr rfl)
        exact absurd c118 (by simp)

set_option maxRecDepth 100000 in
theorem gcd_ok (a b : Int) (ha : 0 ≤ a ∧ a ≤ 490000) (hb : 0 < b ∧ b ≤ 700) : ACalls Try.prog W 57 #[.int .i64 a, .int .i64 b] H (fun r H' => r = .int .i64 (gcdI a b) ∧ Ext H H') := by
  refine ACalls.of (args := [.int .i64 a, .int .i64 b]) Try.func57 rfl rfl ?_
  have X0 := Ext.refl H
  refine AW.rs ?_
  refine AL.val rfl (.inl rfl) (HV.as rfl) ?_
  refine AL.nx ?_
  refine AW.seq ?_
  refine AW.block ?_
  refine AW.loop (σ := Int × Int) (fun ⟨x, y⟩ => [(4, .int .i64 0), (0, .int .i64 x), (1, .int .i64 y)]) (fun ⟨x, y⟩ H' => Ext H H' ∧ 0 ≤ x ∧ 0 ≤ y ∧ gcdI x y = gcdI a b ∧ True) (fun ⟨x, y⟩ => y.toNat) (a, b) ⟨X0, ha.1, by omega, rfl, trivial⟩ ⟨rfl, rfl, rfl, trivial⟩ ?_
  rintro ⟨x, y⟩ H1 ⟨X2, hx, hy, hg, _⟩
  refine AW.seq ?_
  refine AW.rs ?_
  refine AL.val rfl (.inl rfl) (HV.mv rfl) ?_
  refine AL.val rfl (.inl rfl) (HV.nei rfl rfl) ?_
  refine AL.nx ?_
  refine AW.ifd rfl (fun c3 => ?_) (fun c3 => ?_)
  · -- then
    refine AW.skip ?_
    refine nrm_and ?_
    refine AW.block ?_
    refine AW.rs ?_
    refine AL.val rfl (.inl rfl) (HV.mv rfl) ?_
    refine AL.val rfl (.inl rfl) (HV.as rfl) ?_
    refine AL.nx ?_
    refine AW.rs ?_
    refine AL.val rfl (.inl rfl) (HV.mv rfl) ?_
    refine AL.val rfl (.inl rfl) (HV.as rfl) ?_
    refine AL.nx ?_
    refine AW.reg ?_
    refine AL.val rfl (.inl rfl) (HV.mv rfl) ?_
    refine AL.val rfl (.inl rfl) (HV.mv rfl) ?_
    have hm1 := Int.emod_nonneg x (show y ≠ 0 by omega)
    have hm2 := Int.emod_lt_of_pos x (show 0 < y by omega)
    refine AL.val rfl (.inl rfl) (HV.rem rfl rfl (by omega)) ?_
    refine AL.val rfl (.inl rfl) (HV.as rfl) ?_
    refine AL.nil ?_
    refine nrm_blk (nrm_and ?_)
    exact ⟨(y, x % y), ⟨X2, by omega, Int.emod_nonneg _ (by omega), by rw [gcdI_step hx (by omega), hg], trivial⟩, by first | omega | (dsimp only; omega), ⟨rfl, rfl, rfl, trivial⟩⟩
  · -- else
    refine AW.exit ?_
    refine ex_and (ex_and (ex_blk ?_))
    refine nrm_and ?_
    refine AW.rs ?_
    refine AL.val rfl (.inl rfl) (HV.mv rfl) ?_
    refine AL.val rfl (.inl rfl) (HV.as rfl) ?_
    refine AL.nx ?_
    refine AW.ret ?_
    refine post_one rfl rfl ?_ (.inr rfl)
    have hy0 : y = 0 := (by omega); have hgx : x = gcdI a b := (by rw [← hg, hy0, gcdI_zero hx]); exact ⟨congrArg (Value.int .i64) hgx, X2⟩

set_option maxRecDepth 100000 in
theorem lowest_ok (a b : Int) (ha : 0 ≤ a ∧ a ≤ 490000) (hb : 0 < b ∧ b ≤ 700) : ACalls Try.prog W 59 #[.int .i64 a, .int .i64 b] H (fun r H' => r = .tuple #[.int .i64 (a / gcdI a b), .int .i64 (b / gcdI a b)] ∧ Ext H H') := by
  refine ACalls.of (args := [.int .i64 a, .int .i64 b]) Try.func59 rfl rfl ?_
  have X0 := Ext.refl H
  refine AW.rs ?_
  refine AL.val rfl (.inl rfl) (HV.as rfl) ?_
  refine AL.val rfl (.inl rfl) (HV.as rfl) ?_
  refine AL.nx ?_
  refine AW.rs ?_
  refine AL.val rfl (.inl rfl) (HV.mv rfl) ?_
  refine AL.val rfl (.inl rfl) (HV.mv rfl) ?_
  refine AL.val rfl (.inl rfl) (HV.as rfl) ?_
  refine AL.val rfl (.inl rfl) (HV.as rfl) ?_
  refine AL.nx ?_
  refine AW.seq ?_
  refine AW.block ?_
  refine AW.loop (σ := Int × Int) (fun ⟨x, y⟩ => [(0, .int .i64 a), (1, .int .i64 b), (4, .int .i64 0), (5, .int .i64 0), (6, .int .i64 x), (7, .int .i64 y)]) (fun ⟨x, y⟩ H' => Ext H H' ∧ 0 ≤ x ∧ 0 ≤ y ∧ gcdI x y = gcdI a b ∧ True) (fun ⟨x, y⟩ => y.toNat) (a, b) ⟨X0, ha.1, by omega, rfl, trivial⟩ ⟨rfl, rfl, rfl, rfl, rfl, rfl, trivial⟩ ?_
  rintro ⟨x, y⟩ H1 ⟨X2, hx, hy, hg, _⟩
  refine AW.seq ?_
  refine AW.rs ?_
  refine AL.val rfl (.inl rfl) (HV.mv rfl) ?_
  refine AL.val rfl (.inl rfl) (HV.nei rfl rfl) ?_
  refine AL.nx ?_
  refine AW.ifd rfl (fun c3 => ?_) (fun c3 => ?_)
  · -- then
    refine AW.skip ?_
    refine nrm_and ?_
    refine AW.block ?_
    refine AW.draw' [0, 0, 0, 6, 3, 31] mixed (by rfl) ?_
    refine Dr.read 0 _ 12 _ rfl rfl rfl rfl rfl (RV.of (by intro _ _ h; cases h) (.inl rfl) (fun _ xd => HV.mv rfl)) ?_
    refine Dr.read 1 _ 13 _ rfl rfl rfl rfl rfl (RV.of (by intro _ _ h; cases h) (.inl rfl) (fun _ xd => HV.mv rfl)) ?_
    refine Dr.read 2 _ 14 _ rfl rfl rfl rfl rfl (RV.of (by intro _ _ h; cases h) (.inl rfl) (fun _ xd => HV.mv rfl)) ?_
    have hm1 := Int.emod_nonneg x (show y ≠ 0 by omega)
    have hm2 := Int.emod_lt_of_pos x (show 0 < y by omega)
    refine Dr.read 3 _ 15 _ rfl rfl rfl rfl rfl (RV.of (by intro _ _ h; cases h) (.inl rfl) (fun _ xd => HV.rem rfl rfl (by omega))) ?_
    refine Dr.eff 4 _ _ rfl (by intro d h; cases h; exact ⟨rfl, rfl⟩) rfl rfl rfl (EC.of (by intro _ _ h; cases h) (.inl rfl) (WV.ofHV (HV.as rfl))) (fun v H' h => .inl (h.2 ▸ Ext.refl _)) ?_
    rintro u_ h_ ⟨e1_, e2_⟩
    rw [e1_, e2_]
    clear e1_ e2_ u_ h_
    refine Dr.eff 5 _ _ rfl (by intro d h; cases h; exact ⟨rfl, rfl⟩) rfl rfl rfl (EC.of (by intro _ _ h; cases h) (.inl rfl) (WV.ofHV (HV.as rfl))) (fun v H' h => .inl (h.2 ▸ Ext.refl _)) ?_
    rintro u_ h_ ⟨e1_, e2_⟩
    rw [e1_, e2_]
    clear e1_ e2_ u_ h_
    refine Dr.fin rfl ?_
    refine nrm_blk (nrm_and ?_)
    exact ⟨(y, x % y), ⟨X2, by omega, Int.emod_nonneg _ (by omega), by rw [gcdI_step hx (by omega), hg], trivial⟩, by first | omega | (dsimp only; omega), ⟨rfl, rfl, rfl, rfl, rfl, rfl, trivial⟩⟩
  · -- else
    refine AW.exit ?_
    refine ex_and (ex_and (ex_blk ?_))
    refine nrm_and ?_
    refine AW.seq ?_
    refine AW.draw' [0, 0, 3, 0, 0, 24, 7, 127] mixed (by rfl) ?_
    refine Dr.read 0 _ 16 _ rfl rfl rfl rfl rfl (RV.of (by intro _ _ h; cases h) (.inl rfl) (fun _ xd => HV.mv rfl)) ?_
    refine Dr.read 1 _ 17 _ rfl rfl rfl rfl rfl (RV.of (by intro _ _ h; cases h) (.inl rfl) (fun _ xd => HV.mv rfl)) ?_
    refine Dr.read 2 _ 18 _ rfl rfl rfl rfl rfl (RV.of (by intro _ _ h; cases h) (.inl rfl) (fun _ xd => HV.quo rfl rfl (by have hy0 : y = 0 := (by omega); have hgx : x = gcdI a b := (by rw [← hg, hy0, gcdI_zero hx]); have := gcd_le ha.1 hb.1; omega))) ?_
    refine Dr.read 3 _ 19 _ rfl rfl rfl rfl rfl (RV.of (by intro _ _ h; cases h) (.inl rfl) (fun _ xd => HV.mv rfl)) ?_
    refine Dr.read 4 _ 20 _ rfl rfl rfl rfl rfl (RV.of (by intro _ _ h; cases h) (.inl rfl) (fun _ xd => HV.mv rfl)) ?_
    refine Dr.read 5 _ 21 _ rfl rfl rfl rfl rfl (RV.of (by intro _ _ h; cases h) (.inl rfl) (fun _ xd => HV.quo rfl rfl (by have hy0 : y = 0 := (by omega); have hgx : x = gcdI a b := (by rw [← hg, hy0, gcdI_zero hx]); have := gcd_le ha.1 hb.1; omega))) ?_
    refine Dr.read 6 _ 4 _ rfl rfl rfl rfl rfl (RV.of (by intro _ _ h; cases h) (.inl rfl) (fun _ xd => HV.as rfl)) ?_
    refine Dr.read 7 _ 5 _ rfl rfl rfl rfl rfl (RV.of (by intro _ _ h; cases h) (.inl rfl) (fun _ xd => HV.as rfl)) ?_
    refine Dr.fin rfl ?_
    refine nrm_and ?_
    refine AW.ret ?_
    refine post_two rfl rfl rfl ?_ (.inr rfl)
    have hy0 : y = 0 := (by omega); have hgx : x = gcdI a b := (by rw [← hg, hy0, gcdI_zero hx]); exact ⟨by rw [← hgx], X2⟩

set_option maxRecDepth 100000 in
theorem maxI_ok {v : Value} {l : List Int} {ok : Nat → Prop} (hr : RdK kI W H ok v l) (hb : ∀ x ∈ l, 0 ≤ x ∧ x ≤ 700) (hl : l.length ≤ 64) (hp : 0 < l.length) : ACalls Try.prog W 58 #[v] H (fun r H' => r = .int .i64 (maxL l) ∧ Ext H H') := by
  refine ACalls.of (args := [v]) Try.func58 rfl rfl ?_
  have X0 := Ext.refl H
  have hm1 := hr.max
  refine AW.rs ?_
  refine AL.val rfl (.inl rfl) (HV.as rfl) ?_
  refine AL.nx ?_
  refine AW.seq ?_
  refine AW.rs ?_
  refine AL.val rfl (.inl rfl) (HV.mv rfl) ?_
  refine AL.val rfl (.inl rfl) (HV.len Try.underlying22 rfl hr.isSl) ?_
  refine AL.val rfl (.inl rfl) (HV.lti rfl rfl) ?_
  refine AL.nx ?_
  refine AW.ifd rfl (fun c2 => ?_) (fun c2 => ?_)
  · -- then
    refine AW.reg ?_
    exact absurd c2 (by omega)
  · -- else
    refine AW.skip ?_
    refine nrm_and ?_
    refine AW.rs ?_
    refine AL.val rfl (.inl rfl) (HV.mv rfl) ?_
    obtain ⟨p3, z4, cs5, hz6, hK7, hC8, hP9⟩ := RdK.ix (q := 0) hr sl22 (by omega) (by omega)
    obtain rfl : cs5 = [.int .i64 z4] := hK7
    refine AL.val rfl (.inl rfl) (hP9 rfl rfl) ?_
    refine AL.val rfl (.inl rfl) (HV.ld rfl va2 (cells_first hC8 rfl)) ?_
    refine AL.val rfl (.inl rfl) (HV.as rfl) ?_
    refine AL.nx ?_
    refine AW.seq ?_
    refine AW.rs ?_
    refine AL.val rfl (.inl rfl) (HV.as rfl) ?_
    refine AL.nx ?_
    refine AW.block ?_
    refine AW.loop (σ := Nat × Int) (fun ⟨i, p⟩ => [(0, v), (2, .int .i64 0), (3, .int .i64 p), (4, .int .i64 (i : Int))]) (fun ⟨i, p⟩ H' => Ext H H' ∧ 1 ≤ i ∧ i ≤ l.length ∧ p = maxL (l.take i) ∧ True) (fun ⟨i, p⟩ => l.length - i) (1, z4) ⟨X0, Nat.le_refl _, by omega, by have q := hb _ (List.mem_of_getElem? hz6); have e := maxL_snoc (i := 0) (getq hz6 rfl) q.1; rw [e]; show _ = max 0 _; omega, trivial⟩ ⟨rfl, rfl, rfl, rfl, trivial⟩ ?_
    rintro ⟨i, p⟩ H10 ⟨X11, h1i, hi, hpm, _⟩
    refine AW.seq ?_
    refine AW.rs ?_
    refine AL.val rfl (.inl rfl) (HV.mv rfl) ?_
    refine AL.val rfl (.inl rfl) (HV.mv rfl) ?_
    refine AL.val rfl (.inl rfl) (HV.len Try.underlying22 rfl hr.isSl) ?_
    refine AL.val rfl (.inl rfl) (HV.lti rfl rfl) ?_
    refine AL.nx ?_
    refine AW.ifd rfl (fun c12 => ?_) (fun c12 => ?_)
    · -- then
      refine AW.skip ?_
      refine nrm_and ?_
      refine AW.seq ?_
      refine AW.block ?_
      refine AW.reg ?_
      refine AL.val rfl (.inl rfl) (HV.mv rfl) ?_
      refine AL.val rfl (.inl rfl) (HV.mv rfl) ?_
      refine AL.val rfl (.inl rfl) (HV.mv rfl) ?_
      obtain ⟨p13, z14, cs15, hz16, hK17, hC18, hP19⟩ := RdK.ix (q := (i : Int)) hr sl22 (by omega) (by omega)
      obtain rfl : cs15 = [.int .i64 z14] := hK17
      refine AL.val rfl (.inl rfl) (hP19 rfl rfl) ?_
      refine AL.val rfl (.inl rfl) (HV.ld rfl va2 (cells_first (hC18.ext X11) rfl)) ?_
      refine AL.val rfl (.inl rfl) (HV.mx rfl rfl) ?_
      refine AL.val rfl (.inl rfl) (HV.as rfl) ?_
      refine AL.nil ?_
      refine nrm_blk (nrm_and ?_)
      refine AW.reg ?_
      refine AL.val rfl (.inl rfl) (HV.mv rfl) ?_
      refine AL.val rfl (.inl rfl) (HV.add rfl rfl (by omega)) ?_
      refine AL.val rfl (.inl rfl) (HV.as rfl) ?_
      refine AL.nil ?_
      refine nrm_and ?_
      exact ⟨(i + 1, max p z14), ⟨X11, by omega, by omega, by rw [maxL_snoc (getq hz16 rfl) (hb _ (List.mem_of_getElem? hz16)).1, hpm], trivial⟩, by first | omega | (dsimp only; omega), ⟨rfl, rfl, rfl, rfl, trivial⟩⟩
    · -- else
      refine AW.exit ?_
      refine ex_and (ex_and (ex_blk ?_))
      refine nrm_and ?_
      refine AW.rs ?_
      refine AL.val rfl (.inl rfl) (HV.mv rfl) ?_
      refine AL.val rfl (.inl rfl) (HV.as rfl) ?_
      refine AL.nx ?_
      refine AW.ret ?_
      refine post_one rfl rfl ?_ (.inr rfl)
      exact ⟨congrArg (Value.int .i64) (by rw [hpm, List.take_of_length_le (by omega)]), X11⟩

set_option maxRecDepth 100000 in
theorem specGC_ok {vs v : Value} {s : List Int} {l : List (Int × List Int)} {oks ok : Nat → Prop} (n : Int) (hs : RdK kI W H oks vs s) (hr : RdK (kP kI (kR kI)) W H ok v l) {vg : Value} {g : List Int} {okg : Nat → Prop} (hgr : RdK kI W H okg vg g) : ACalls Try.prog W 23 #[.agg #[.int .i64 n, vs, v], vg] H (fun r H' => r = .tuple #[.int .i64 (if codeT n s l g = 0 then (bestV (seeV n g l l.length)) / (gcdI (bestV (seeV n g l l.length)) (l.length : Int)) else 0), .int .i64 (if codeT n s l g = 0 then (l.length : Int) / (gcdI (bestV (seeV n g l l.length)) (l.length : Int)) else 0), .int .i64 (codeT n s l g)] ∧ Ext H H') := by
  refine ACalls.of (args := [.agg #[.int .i64 n, vs, v], vg]) Try.func23 rfl rfl ?_
  have X0 := Ext.refl H
  have hm1 := hs.max
  have hm2 := hr.max
  have hm3 := hgr.max
  refine AW.rs ?_
  refine AL.w rfl (.inl rfl) (WV.bx rfl rfl) ?_
  rintro _ H5 ⟨b4, rfl, hx6, hn7, hb8⟩
  have o9 := Nat.le_trans X0.bd hn7
  have X10 := Ext.trans X0 hx6
  have X11 := Ext.refl H5
  refine AL.val rfl (.inl rfl) (HV.as rfl) ?_
  refine AL.val rfl (.inl rfl) (HV.as rfl) ?_
  refine AL.val rfl (.inl rfl) (HV.as rfl) ?_
  refine AL.nx ?_
  refine AW.seq ?_
  refine AW.rs ?_
  refine AL.val rfl (.inl rfl) (HV.mv rfl) ?_
  refine AL.w rfl (.inl rfl) (WV.call fn45 rfl (l06Asked_ok (hs.ext X10) (hr.ext X10) hb8 (hgr.ext X10))) ?_
  rintro _ H12 ⟨rfl, hx13⟩
  have X14 := Ext.trans X10 hx13
  have X15 := Ext.trans X11 hx13
  have hb16 := hb8.ext hx13
  refine AL.val rfl (.inl rfl) (HV.as rfl) ?_
  refine AL.nx ?_
  refine AW.rs ?_
  refine AL.val rfl (.inl rfl) (HV.mv rfl) ?_
  refine AL.val rfl (.inl rfl) (HV.nei rfl rfl) ?_
  refine AL.nx ?_
  refine AW.ifd rfl (fun c17 => ?_) (fun c17 => ?_)
  · -- then
    refine AW.rs ?_
    refine AL.val rfl (.inl rfl) (HV.mv rfl) ?_
    refine AL.val rfl (.inl rfl) (HV.as rfl) ?_
    refine AL.val rfl (.inl rfl) (HV.as rfl) ?_
    refine AL.val rfl (.inl rfl) (HV.as rfl) ?_
    refine AL.nx ?_
    refine AW.ret ?_
    refine ret_and ?_
    refine post_three rfl rfl rfl rfl ?_ (.inr rfl)
    have hne := c17; exact ⟨by rw [if_neg hne, if_neg hne], X14⟩
  · -- else
    refine AW.skip ?_
    refine nrm_and ?_
    refine AW.rs ?_
    have hcd : codeT n s l g = 0 := (by omega)
    have hok := (code0.1 hcd).1
    have hgr_ := (code0.1 hcd).2
    have hs7 := hok.1.2.1
    have hg7 := ris_len hs7 hgr_
    have hin := grp_in hgr_
    have hse := see_all (g := g) hok
    have hsl := hse.len
    have hmst : (seeV n g l l.length).length = ((seeV n g l l.length).map Prod.snd).length := (List.length_map _).symm
    have hl7 := hok.1.2.2.1
    have hn1 := hok.1.1
    refine AL.val rfl (.inl rfl) (HV.mv rfl) ?_
    refine AL.w rfl (.inl rfl) (WV.call fn55 rfl (see_ok (g := g) (hs.ext X14) (hr.ext X14) hb16 (hgr.ext X14) hok hgr_)) ?_
    rintro _ H18 ⟨⟨bx19, lab20, vl21, vc22, lv23, cv24, rfl, hL25⟩, hx26⟩
    have X27 := Ext.trans X14 hx26
    have X28 := Ext.trans X15 hx26
    have hb29 := hb16.ext hx26
    have X30 := Ext.refl H18
    refine AL.val rfl (.inl rfl) (HV.as rfl) ?_
    refine AL.nx ?_
    refine AW.rs ?_
    refine AL.val rfl (.inl rfl) (HV.as rfl) ?_
    refine AL.nx ?_
    refine AW.seq ?_
    refine AW.rs ?_
    refine AL.val rfl (.inl rfl) (HV.as rfl) ?_
    refine AL.nx ?_
    refine AW.block ?_
    refine AW.loop (σ := Nat × Int) (fun ⟨i, p⟩ => [(2, .pointer (some ⟨b4, 0, none⟩)), (4, .int .i64 0), (5, .int .i64 0), (6, .int .i64 0), (8, .pointer (some ⟨bx19, 0, none⟩)), (9, .int .i64 p), (10, .int .i64 (i : Int))]) (fun ⟨i, p⟩ H' => Ext H H' ∧ Ext H5 H' ∧ Ext H18 H' ∧ At W H' b4 ⟨30, [.int .i64 n, vs, v], 3⟩ ∧ At W H' bx19 ⟨82, [.int .i64 n, vl21, vc22], 3⟩ ∧ i ≤ (seeV n g l l.length).length ∧ p = bestV ((seeV n g l l.length).take i) ∧ True) (fun ⟨i, p⟩ => (seeV n g l l.length).length - i) (0, 0) ⟨X27, X28, X30, hb29, hL25.hb, Nat.zero_le _, rfl, trivial⟩ ⟨rfl, rfl, rfl, rfl, rfl, rfl, rfl, trivial⟩ ?_
    rintro ⟨i, p⟩ H31 ⟨X32, X33, X34, hb35, hb36, hi, hp, _⟩
    have hbi := best_in (g := g) hok i
    rw [← hp] at hbi
    refine AW.seq ?_
    refine AW.rs ?_
    refine AL.val rfl (.inl rfl) (HV.mv rfl) ?_
    refine AL.val rfl (.inl rfl) (HV.mv rfl) ?_
    refine AL.val rfl (.inl rfl) (HV.nc rfl) ?_
    refine AL.val rfl (.inl rfl) (HV.fa fl82_2 rfl) ?_
    refine AL.val rfl (.inl rfl) (HV.ld rfl va45 (at_cell_add hb36 rfl)) ?_
    refine AL.val rfl (.inl rfl) (HV.len Try.underlying45 rfl hL25.rdC.isSl) ?_
    refine AL.val rfl (.inl rfl) (HV.lti rfl rfl) ?_
    refine AL.nx ?_
    refine AW.ifd rfl (fun c37 => ?_) (fun c37 => ?_)
    · -- then
      refine AW.skip ?_
      refine nrm_and ?_
      refine AW.seq ?_
      refine AW.block ?_
      refine AW.reg ?_
      refine AL.val rfl (.inl rfl) (HV.mv rfl) ?_
      refine AL.val rfl (.inl rfl) (HV.mv rfl) ?_
      refine AL.val rfl (.inl rfl) (HV.nc rfl) ?_
      refine AL.val rfl (.inl rfl) (HV.fa fl82_2 rfl) ?_
      refine AL.val rfl (.inl rfl) (HV.ld rfl va45 (at_cell_add hb36 rfl)) ?_
      refine AL.val rfl (.inl rfl) (HV.mv rfl) ?_
      obtain ⟨p38, z39, cs40, hz41, hK42, hC43, hP44⟩ := RdK.ix (q := (i : Int)) hL25.rdC sl45 (by omega) (by omega)
      obtain ⟨v45, rfl, hr46⟩ := hK42
      have hm47 := hr46.max
      refine AL.val rfl (.inl rfl) (hP44 rfl rfl) ?_
      refine AL.val rfl (.inl rfl) (HV.ld rfl va22 (cells_first (hC43.ext X34) rfl)) ?_
      refine AL.w rfl (.inl rfl) (WV.call fn56 rfl (great_ok (hr46.ext X34) (fun x hx => by obtain ⟨y, hy, e⟩ := snd_gd (st := seeV n g l l.length) hz41 rfl; exact see_nn hok y (List.mem_of_getElem? hy) x (by rw [e]; exact hx)) (by obtain ⟨y, hy, e⟩ := snd_gd (st := seeV n g l l.length) hz41 rfl; have := hse.cl y (List.mem_of_getElem? hy); rw [e] at this; omega))) ?_
      rintro _ H48 ⟨rfl, hx49⟩
      have X50 := Ext.trans X32 hx49
      have X51 := Ext.trans X33 hx49
      have X52 := Ext.trans X34 hx49
      have hb53 := hb35.ext hx49
      have hb54 := hb36.ext hx49
      refine AL.val rfl (.inl rfl) (HV.add rfl rfl (by have hq9 : ∀ x ∈ z39, 0 ≤ x ∧ x ≤ 700 := (fun x hx => by obtain ⟨y, hy, e⟩ := snd_gd (st := seeV n g l l.length) hz41 rfl; exact see_nn hok y (List.mem_of_getElem? hy) x (by rw [e]; exact hx)); have q := maxL_bd (by decide) (fun x hx => (hq9 x hx).2); have q2 := maxL_nn z39; omega)) ?_
      refine AL.val rfl (.inl rfl) (HV.as rfl) ?_
      refine AL.nil ?_
      refine nrm_blk (nrm_and ?_)
      refine AW.reg ?_
      refine AL.val rfl (.inl rfl) (HV.mv rfl) ?_
      refine AL.val rfl (.inl rfl) (HV.add rfl rfl (by omega)) ?_
      refine AL.val rfl (.inl rfl) (HV.as rfl) ?_
      refine AL.nil ?_
      refine nrm_and ?_
      exact ⟨(i + 1, p + (maxL z39)), ⟨X50, X51, X52, hb53, hb54, by omega, by obtain ⟨y, hy, ey⟩ := snd_gd (st := seeV n g l l.length) (j := i) hz41 rfl; rw [bestV_snoc hy, hp, ey], trivial⟩, by first | omega | (dsimp only; omega), ⟨rfl, rfl, rfl, rfl, rfl, rfl, rfl, trivial⟩⟩
    · -- else
      refine AW.exit ?_
      refine ex_and (ex_and (ex_blk ?_))
      refine nrm_and ?_
      refine AW.rs ?_
      refine AL.val rfl (.inl rfl) (HV.fa fl30_2 rfl) ?_
      refine AL.val rfl (.inl rfl) (HV.ld rfl va28 (at_cell_add hb35 rfl)) ?_
      refine AL.val rfl (.inl rfl) (HV.len Try.underlying28 rfl hr.isSl) ?_
      refine AL.val rfl (.inl rfl) (HV.as rfl) ?_
      refine AL.nx ?_
      refine AW.rs ?_
      refine AL.val rfl (.inl rfl) (HV.mv rfl) ?_
      refine AL.val rfl (.inl rfl) (HV.mv rfl) ?_
      refine AL.w rfl (.inl rfl) (WV.call fn57 rfl (gcd_ok (W := W) p (l.length : Int) (by omega) (by omega))) ?_
      rintro _ H55 ⟨rfl, hx56⟩
      have X57 := Ext.trans X32 hx56
      have X58 := Ext.trans X33 hx56
      have X59 := Ext.trans X34 hx56
      have hb60 := hb35.ext hx56
      have hb61 := hb36.ext hx56
      refine AL.val rfl (.inl rfl) (HV.as rfl) ?_
      refine AL.nx ?_
      refine AW.seq ?_
      refine AW.draw' [0, 0, 3, 0, 0, 24, 7, 127, 255] mixed (by rfl) ?_
      refine Dr.read 0 _ 45 _ rfl rfl rfl rfl rfl (RV.of (by intro _ _ h; cases h) (.inl rfl) (fun _ xd => HV.mv rfl)) ?_
      refine Dr.read 1 _ 46 _ rfl rfl rfl rfl rfl (RV.of (by intro _ _ h; cases h) (.inl rfl) (fun _ xd => HV.mv rfl)) ?_
      refine Dr.read 2 _ 47 _ rfl rfl rfl rfl rfl (RV.of (by intro _ _ h; cases h) (.inl rfl) (fun _ xd => HV.quo rfl rfl (by have := gcd_le (a := p) (b := (l.length : Int)) (by omega) (by omega); omega))) ?_
      refine Dr.read 3 _ 48 _ rfl rfl rfl rfl rfl (RV.of (by intro _ _ h; cases h) (.inl rfl) (fun _ xd => HV.mv rfl)) ?_
      refine Dr.read 4 _ 49 _ rfl rfl rfl rfl rfl (RV.of (by intro _ _ h; cases h) (.inl rfl) (fun _ xd => HV.mv rfl)) ?_
      refine Dr.read 5 _ 50 _ rfl rfl rfl rfl rfl (RV.of (by intro _ _ h; cases h) (.inl rfl) (fun _ xd => HV.quo rfl rfl (by have := gcd_le (a := p) (b := (l.length : Int)) (by omega) (by omega); omega))) ?_
      refine Dr.read 6 _ 4 _ rfl rfl rfl rfl rfl (RV.of (by intro _ _ h; cases h) (.inl rfl) (fun _ xd => HV.as rfl)) ?_
      refine Dr.read 7 _ 5 _ rfl rfl rfl rfl rfl (RV.of (by intro _ _ h; cases h) (.inl rfl) (fun _ xd => HV.as rfl)) ?_
      refine Dr.read 8 _ 6 _ rfl rfl rfl rfl rfl (RV.of (by intro _ _ h; cases h) (.inl rfl) (fun _ xd => HV.as rfl)) ?_
      refine Dr.fin rfl ?_
      refine nrm_and ?_
      refine AW.ret ?_
      refine post_three rfl rfl rfl rfl ?_ (.inr rfl)
      have hpb : p = (bestV (seeV n g l l.length)) := (by rw [hp, List.take_of_length_le (by omega)]); exact ⟨by rw [hcd, if_pos rfl, if_pos rfl, ← hpb]; try rfl, X57⟩

set_option maxRecDepth 100000 in
theorem implGC_ok {vs v : Value} {s : List Int} {l : List (Int × List Int)} {oks ok : Nat → Prop} (n : Int) (hs : RdK kI W H oks vs s) (hr : RdK (kP kI (kR kI)) W H ok v l) {vg : Value} {g : List Int} {okg : Nat → Prop} (hgr : RdK kI W H okg vg g) : ACalls Try.prog W 24 #[.agg #[.int .i64 n, vs, v], vg] H (fun r H' => r = .tuple #[.int .i64 (if codeT n s l g = 0 then (bestV (seeV n g l l.length)) / (gcdI (bestV (seeV n g l l.length)) (l.length : Int)) else 0), .int .i64 (if codeT n s l g = 0 then (l.length : Int) / (gcdI (bestV (seeV n g l l.length)) (l.length : Int)) else 0), .int .i64 (codeT n s l g)] ∧ Ext H H') := by
  refine ACalls.of (args := [.agg #[.int .i64 n, vs, v], vg]) Try.func24 rfl rfl ?_
  have X0 := Ext.refl H
  have hm1 := hs.max
  have hm2 := hr.max
  have hm3 := hgr.max
  refine AW.rs ?_
  refine AL.w rfl (.inl rfl) (WV.bx rfl rfl) ?_
  rintro _ H5 ⟨b4, rfl, hx6, hn7, hb8⟩
  have o9 := Nat.le_trans X0.bd hn7
  have X10 := Ext.trans X0 hx6
  have X11 := Ext.refl H5
  refine AL.val rfl (.inl rfl) (HV.as rfl) ?_
  refine AL.val rfl (.inl rfl) (HV.as rfl) ?_
  refine AL.val rfl (.inl rfl) (HV.as rfl) ?_
  refine AL.nx ?_
  refine AW.seq ?_
  refine AW.rs ?_
  refine AL.val rfl (.inl rfl) (HV.lda (cs := [.int .i64 n, vs, v]) rfl va30 (at_cells hb8 rfl)) ?_
  refine AL.val rfl (.inl rfl) (HV.mv rfl) ?_
  refine AL.w rfl (.inl rfl) (WV.call fn47 rfl (tableCode_ok n (hs.ext X10) (hr.ext X10) (hgr.ext X10))) ?_
  rintro _ H12 ⟨rfl, hx13⟩
  have X14 := Ext.trans X10 hx13
  have X15 := Ext.trans X11 hx13
  have hb16 := hb8.ext hx13
  refine AL.val rfl (.inl rfl) (HV.as rfl) ?_
  refine AL.nx ?_
  refine AW.rs ?_
  refine AL.val rfl (.inl rfl) (HV.mv rfl) ?_
  refine AL.val rfl (.inl rfl) (HV.nei rfl rfl) ?_
  refine AL.nx ?_
  refine AW.ifd rfl (fun c17 => ?_) (fun c17 => ?_)
  · -- then
    refine AW.rs ?_
    refine AL.val rfl (.inl rfl) (HV.mv rfl) ?_
    refine AL.val rfl (.inl rfl) (HV.as rfl) ?_
    refine AL.val rfl (.inl rfl) (HV.as rfl) ?_
    refine AL.val rfl (.inl rfl) (HV.as rfl) ?_
    refine AL.nx ?_
    refine AW.ret ?_
    refine ret_and ?_
    refine post_three rfl rfl rfl rfl ?_ (.inr rfl)
    have hne := c17; exact ⟨by rw [if_neg hne, if_neg hne], X14⟩
  · -- else
    refine AW.skip ?_
    refine nrm_and ?_
    refine AW.rs ?_
    refine AL.val rfl (.inl rfl) (HV.as rfl) ?_
    refine AL.nx ?_
    refine AW.seq ?_
    refine AW.seq ?_
    refine AW.draw' [0, 0, 2, 7, 15, 0] mixed (by rfl) ?_
    have hcd : codeT n s l g = 0 := (by omega)
    have hok := (code0.1 hcd).1
    have hgr_ := (code0.1 hcd).2
    have hs7 := hok.1.2.1
    have hg7 := ris_len hs7 hgr_
    have hin := grp_in hgr_
    have hse := see_all (g := g) hok
    have hsl := hse.len
    have hmst : (seeV n g l l.length).length = ((seeV n g l l.length).map Prod.snd).length := (List.length_map _).symm
    have hl7 := hok.1.2.2.1
    have hn1 := hok.1.1
    refine Dr.read 0 _ 19 _ rfl rfl rfl rfl rfl (RV.of (by intro _ _ h; cases h) (.inl rfl) (fun _ xd => HV.lda (cs := [.int .i64 n, vs, v]) rfl va30 (fun j u hu => rdc_ext xd ((at_cells hb16 rfl) j u hu)))) ?_
    refine Dr.read 1 _ 20 _ rfl rfl rfl rfl rfl (RV.of (by intro _ _ h; cases h) (.inl rfl) (fun _ xd => HV.mv rfl)) ?_
    refine Dr.read 5 _ 24 _ rfl rfl rfl rfl rfl (RV.of (by intro _ _ h; cases h) (.inl rfl) (fun _ xd => HV.mv rfl)) ?_
    refine Dr.eff 2 _ _ rfl (by intro d h; cases h; exact ⟨rfl, rfl⟩) rfl rfl rfl (EC.of (by intro _ _ h; cases h) (.inl rfl) (WV.call fn49 rfl (crowdOf_ok (hgr.ext X14) (fun x hx => by have := hin x hx; omega)))) (fun v H' h => .inl (h.2)) ?_
    rintro _ H18 ⟨rfl, hx19⟩
    rw [(bits_nat hs7 hgr_).2.1]
    have X20 := Ext.trans X14 hx19
    have X21 := Ext.trans X15 hx19
    have hb22 := hb16.ext hx19
    refine Dr.eff 3 _ _ rfl (by intro d h; cases h; exact ⟨rfl, rfl⟩) rfl rfl rfl (EC.of (by intro _ _ h; cases h) (.inl rfl) (WV.call fn48 rfl (sights_ok (g := g) n (hs.ext X20) (hr.ext X20) (bitN g) (bit_128 hs7 hgr_) (grp_of hs7 hgr_) hok hin))) (fun v H' h => .inl (h.1)) ?_
    rintro v23 H24 ⟨hx25, ho26⟩
    have X28 := Ext.trans X20 hx25
    have X29 := Ext.trans X21 hx25
    have hb30 := hb22.ext hx25
    have X31 := Ext.refl H24
    have hr27 := ho26.rd.le (le_X (le_OR (Le.refl _)) (le_OR (Le.refl _)))
    refine Dr.read 4 _ 23 _ rfl rfl rfl rfl rfl (RV.of (by intro _ _ h; cases h) (.inl rfl) (fun _ xd => HV.len Try.underlying67 rfl hr27.isSl)) ?_
    refine Dr.fin rfl ?_
    refine nrm_and ?_
    refine AW.block ?_
    refine AW.loop (σ := Nat × Int) (fun ⟨i, p⟩ => [(2, .pointer (some ⟨b4, 0, none⟩)), (4, .int .i64 0), (5, .int .i64 0), (6, .int .i64 0), (22, v23), (23, .int .i64 ((seeV n g l l.length).length : Int)), (8, .int .i64 p), (24, .int .i64 (i : Int))]) (fun ⟨i, p⟩ H' => Ext H H' ∧ Ext H5 H' ∧ Ext H24 H' ∧ At W H' b4 ⟨30, [.int .i64 n, vs, v], 3⟩ ∧ i ≤ (seeV n g l l.length).length ∧ p = bestV ((seeV n g l l.length).take i) ∧ True) (fun ⟨i, p⟩ => (seeV n g l l.length).length - i) (0, 0) ⟨X28, X29, X31, hb30, Nat.zero_le _, rfl, trivial⟩ ⟨rfl, rfl, rfl, rfl, rfl, rfl, rfl, rfl, trivial⟩ ?_
    rintro ⟨i, p⟩ H32 ⟨X33, X34, X35, hb36, hi, hp, _⟩
    have hbi := best_in (g := g) hok i
    rw [← hp] at hbi
    refine AW.rs ?_
    refine AL.val rfl (.inl rfl) (HV.lti rfl rfl) ?_
    refine AL.nx ?_
    refine AW.seq ?_
    refine AW.ifd rfl (fun c37 => ?_) (fun c37 => ?_)
    · -- then
      refine AW.skip ?_
      refine nrm_and ?_
      refine AW.seq ?_
      refine AW.block ?_
      refine AW.rs ?_
      obtain ⟨p38, z39, cs40, hz41, hK42, hC43, hP44⟩ := RdK.ix (q := (i : Int)) hr27 sl67 (by omega) (by omega)
      obtain ⟨cs45, cs46, rfl, hK47, hK48⟩ := hK42
      obtain ⟨v49, rfl, hr50⟩ := hK47
      have hm51 := hr50.max
      obtain ⟨v52, rfl, hr53⟩ := hK48
      have hm54 := hr53.max
      refine AL.val rfl (.inl rfl) (hP44 rfl rfl) ?_
      have hnn := see_nn hok _ (List.mem_of_getElem? hz41)
      have hcl := hse.cl _ (List.mem_of_getElem? hz41)
      have hn1 := hok.1.1
      refine AL.val rfl (.inl rfl) (HV.lda (cs := [v49, v52]) rfl va73 (hC43.ext X35)) ?_
      refine AL.w rfl (.inl rfl) (WV.al ze73 rfl) ?_
      rintro _ H56 ⟨b55, rfl, hx57, hn58, hb59⟩
      have o60 := Nat.le_trans X33.bd hn58
      have o61 := Nat.le_trans X34.bd hn58
      have o62 := Nat.le_trans X35.bd hn58
      have ne63 : b4 ≠ b55 := by have := hb36.lt; omega
      have X64 := Ext.trans X33 hx57
      have X65 := Ext.trans X34 hx57
      have X66 := Ext.trans X35 hx57
      have hb67 := hb36.ext hx57
      have X68 := Ext.refl H56
      refine AL.w0 (.inl rfl) (WV.st rfl rfl va73 rfl hb59 (Nat.le_of_ble_eq_true rfl) (one_cons (sl_one1 (hr50.ext X66).isSl) (one_cons (sl_one1 (hr53.ext X66).isSl) one_nil))) ?_
      rintro _ H69 ⟨hx70, hb71⟩
      have X72 := Ext.thru X64 hx70 (fun z_ hz_ => by rw [hz_]; exact o60)
      have X73 := Ext.thru X65 hx70 (fun z_ hz_ => by rw [hz_]; exact o61)
      have X74 := Ext.thru X66 hx70 (fun z_ hz_ => by rw [hz_]; exact o62)
      have hb76 := hb67.but hx70 ne63
      have hb77 : At W H69 b55 ⟨73, [v49, v52], 2⟩ := hb71
      refine AL.nx ?_
      refine AW.reg ?_
      refine AL.val rfl (.inl rfl) (HV.mv rfl) ?_
      refine AL.val rfl (.inl rfl) (HV.fa fl73_1 rfl) ?_
      refine AL.val rfl (.inl rfl) (HV.ld rfl va22 (at_cell_add hb77 rfl)) ?_
      refine AL.w rfl (.inl rfl) (WV.call fn58 rfl (maxI_ok (hr53.ext X74) hnn (by omega) (by omega))) ?_
      rintro _ H78 ⟨rfl, hx79⟩
      have X80 := Ext.trans X72 hx79
      have X81 := Ext.trans X73 hx79
      have X82 := Ext.trans X74 hx79
      have hb83 := hb76.ext hx79
      have hb84 := hb77.ext hx79
      refine AL.val rfl (.inl rfl) (HV.add rfl rfl (by have hq9 : ∀ x ∈ z39.2, 0 ≤ x ∧ x ≤ 700 := hnn; have q := maxL_bd (by decide) (fun x hx => (hq9 x hx).2); have q2 := maxL_nn z39.2; omega)) ?_
      refine AL.val rfl (.inl rfl) (HV.as rfl) ?_
      refine AL.nil ?_
      refine nrm_blk (nrm_and ?_)
      refine AW.reg ?_
      refine AL.val rfl (.inl rfl) (HV.add rfl rfl (by omega)) ?_
      refine AL.val rfl (.inl rfl) (HV.mv rfl) ?_
      refine AL.nil ?_
      refine nrm_and ?_
      exact ⟨(i + 1, p + (maxL z39.2)), ⟨X80, X81, X82, hb83, by omega, by rw [bestV_snoc (getq hz41 rfl), hp], trivial⟩, by first | omega | (dsimp only; omega), ⟨rfl, rfl, rfl, rfl, rfl, rfl, rfl, rfl, trivial⟩⟩
    · -- else
      refine AW.exit ?_
      refine ex_and (ex_and (ex_blk ?_))
      refine nrm_and ?_
      refine AW.rs ?_
      refine AL.val rfl (.inl rfl) (HV.mv rfl) ?_
      refine AL.val rfl (.inl rfl) (HV.fa fl30_2 rfl) ?_
      refine AL.val rfl (.inl rfl) (HV.ld rfl va28 (at_cell_add hb36 rfl)) ?_
      refine AL.val rfl (.inl rfl) (HV.len Try.underlying28 rfl hr.isSl) ?_
      refine AL.w rfl (.inl rfl) (WV.call fn59 rfl (lowest_ok (W := W) p (l.length : Int) (by omega) (by omega))) ?_
      rintro _ H85 ⟨rfl, hx86⟩
      have X87 := Ext.trans X33 hx86
      have X88 := Ext.trans X34 hx86
      have X89 := Ext.trans X35 hx86
      have hb90 := hb36.ext hx86
      refine AL.val rfl (.inl rfl) (HV.mv rfl) ?_
      refine AL.val rfl (.inl rfl) (HV.ex rfl rfl) ?_
      refine AL.val rfl (.inl rfl) (HV.ex rfl rfl) ?_
      refine AL.val rfl (.inl rfl) (HV.as rfl) ?_
      refine AL.val rfl (.inl rfl) (HV.as rfl) ?_
      refine AL.nx ?_
      refine AW.rs ?_
      refine AL.val rfl (.inl rfl) (HV.mv rfl) ?_
      refine AL.val rfl (.inl rfl) (HV.mv rfl) ?_
      refine AL.val rfl (.inl rfl) (HV.as rfl) ?_
      refine AL.val rfl (.inl rfl) (HV.as rfl) ?_
      refine AL.val rfl (.inl rfl) (HV.as rfl) ?_
      refine AL.nx ?_
      refine AW.ret ?_
      refine post_three rfl rfl rfl rfl ?_ (.inr rfl)
      have hpb : p = (bestV (seeV n g l l.length)) := (by rw [hp, List.take_of_length_le (by omega)]); exact ⟨by rw [hcd, if_pos rfl, if_pos rfl, ← hpb]; try rfl, X87⟩

set_option maxRecDepth 100000 in
theorem law_GuessChance {vs v : Value} {s : List Int} {l : List (Int × List Int)} {oks ok : Nat → Prop} (n : Int) (hs : RdK kI W H oks vs s) (hr : RdK (kP kI (kR kI)) W H ok v l) {vg : Value} {g : List Int} {okg : Nat → Prop} (hgr : RdK kI W H okg vg g) : ACalls Try.prog W 7 #[.agg #[.int .i64 n, vs, v], vg] H (fun r H' => r = .bool true ∧ Ext H H') := by
  refine ACalls.of (args := [.agg #[.int .i64 n, vs, v], vg]) Try.func7 rfl rfl ?_
  have X0 := Ext.refl H
  have hm1 := hs.max
  have hm2 := hr.max
  have hm3 := hgr.max
  refine AW.rs ?_
  refine AL.w rfl (.inl rfl) (WV.bx rfl rfl) ?_
  rintro _ H5 ⟨b4, rfl, hx6, hn7, hb8⟩
  have o9 := Nat.le_trans X0.bd hn7
  have X10 := Ext.trans X0 hx6
  have X11 := Ext.refl H5
  refine AL.val rfl (.inl rfl) (HV.as rfl) ?_
  refine AL.nx ?_
  refine AW.seq ?_
  refine AW.rs ?_
  refine AL.val rfl (.inl rfl) (HV.mv rfl) ?_
  refine AL.val rfl (.inl rfl) (HV.len Try.underlying22 rfl hgr.isSl) ?_
  refine AL.val rfl (.inl rfl) (HV.gti rfl rfl) ?_
  refine AL.nx ?_
  refine AW.ifd rfl (fun c12 => ?_) (fun c12 => ?_)
  · -- then
    refine AW.rs ?_
    refine AL.val rfl (.inl rfl) (HV.as rfl) ?_
    refine AL.nx ?_
    refine AW.ret ?_
    refine ret_and ?_
    refine post_one rfl rfl ?_ (.inr rfl)
    exact ⟨rfl, X10⟩
  · -- else
    refine AW.skip ?_
    refine nrm_and ?_
    refine AW.rs ?_
    refine AL.val rfl (.inl rfl) (HV.as rfl) ?_
    refine AL.nx ?_
    refine AW.rs ?_
    refine AL.val rfl (.inl rfl) (HV.lda (cs := [.int .i64 n, vs, v]) rfl va25 (at_cells hb8 rfl)) ?_
    refine AL.val rfl (.inl rfl) (HV.mv rfl) ?_
    refine AL.w rfl (.inl rfl) (WV.call fn10 rfl (szTable_ok n (hs.ext X10) (hr.ext X10) 1048576 (by omega))) ?_
    rintro _ H13 ⟨⟨q15, rfl, ha16, hb17, he18⟩, hx14⟩
    have X19 := Ext.trans X10 hx14
    have X20 := Ext.trans X11 hx14
    have hb21 := hb8.ext hx14
    refine AL.val rfl (.inl rfl) (HV.as rfl) ?_
    refine AL.nx ?_
    refine AW.seq ?_
    refine AW.rs ?_
    refine AL.val rfl (.inl rfl) (HV.mv rfl) ?_
    refine AL.val rfl (.inl rfl) (HV.lti rfl rfl) ?_
    refine AL.nx ?_
    refine AW.ifd rfl (fun c22 => ?_) (fun c22 => ?_)
    · -- then
      refine AW.rs ?_
      refine AL.val rfl (.inl rfl) (HV.as rfl) ?_
      refine AL.nx ?_
      refine AW.ret ?_
      refine ret_and ?_
      refine post_one rfl rfl ?_ (.inr rfl)
      exact ⟨rfl, X19⟩
    · -- else
      refine AW.skip ?_
      refine nrm_and ?_
      refine AW.rs ?_
      refine AL.val rfl (.inl rfl) (HV.lda (cs := [.int .i64 n, vs, v]) rfl va25 (at_cells hb21 rfl)) ?_
      refine AL.w rfl (.inl rfl) (WV.call fn12 rfl (toTable_ok n (hs.ext X19) (hr.ext X19) (he18 (by omega)).1 (he18 (by omega)).2)) ?_
      rintro _ H25 ⟨⟨u23, v24, rfl, ho27, ho28⟩, hx26⟩
      have X31 := Ext.trans X19 hx26
      have X32 := Ext.trans X20 hx26
      have hb33 := hb21.ext hx26
      have X34 := Ext.refl H25
      have hr29 := ho27.rd
      have hr30 := ho28.rd.le (le_P (Le.refl _) (le_OR (Le.refl _)))
      refine AL.val rfl (.inl rfl) (HV.mv rfl) ?_
      refine AL.w rfl (.inl rfl) (WV.call fn18 rfl (toS_ok (hgr.ext X31) (by omega))) ?_
      rintro v35 H36 ⟨hx37, ho38⟩
      have X40 := Ext.trans X31 hx37
      have X41 := Ext.trans X32 hx37
      have X42 := Ext.trans X34 hx37
      have hb43 := hb33.ext hx37
      have X44 := Ext.refl H36
      have hr39 := ho38.rd
      refine AL.w rfl (.inl rfl) (WV.call fn23 rfl (specGC_ok n (hr29.ext X42) (hr30.ext X42) hr39)) ?_
      rintro _ H45 ⟨rfl, hx46⟩
      have X47 := Ext.trans X40 hx46
      have X48 := Ext.trans X41 hx46
      have X49 := Ext.trans X42 hx46
      have X50 := Ext.trans X44 hx46
      have hb51 := hb43.ext hx46
      refine AL.val rfl (.inl rfl) (HV.mv rfl) ?_
      refine AL.val rfl (.inl rfl) (HV.ex rfl rfl) ?_
      refine AL.val rfl (.inl rfl) (HV.ex rfl rfl) ?_
      refine AL.val rfl (.inl rfl) (HV.ex rfl rfl) ?_
      refine AL.val rfl (.inl rfl) (HV.as rfl) ?_
      refine AL.val rfl (.inl rfl) (HV.as rfl) ?_
      refine AL.val rfl (.inl rfl) (HV.as rfl) ?_
      refine AL.nx ?_
      refine AW.rs ?_
      refine AL.val rfl (.inl rfl) (HV.lda (cs := [.int .i64 n, vs, v]) rfl va25 (at_cells hb51 rfl)) ?_
      refine AL.w rfl (.inl rfl) (WV.call fn12 rfl (toTable_ok n (hs.ext X47) (hr.ext X47) (he18 (by omega)).1 (he18 (by omega)).2)) ?_
      rintro _ H54 ⟨⟨u52, v53, rfl, ho56, ho57⟩, hx55⟩
      have X60 := Ext.trans X47 hx55
      have X61 := Ext.trans X48 hx55
      have X62 := Ext.trans X49 hx55
      have X63 := Ext.trans X50 hx55
      have hb64 := hb51.ext hx55
      have X65 := Ext.refl H54
      have hr58 := ho56.rd
      have hr59 := ho57.rd.le (le_P (Le.refl _) (le_OR (Le.refl _)))
      refine AL.w rfl (.inl rfl) (WV.al ze30 rfl) ?_
      rintro _ H67 ⟨b66, rfl, hx68, hn69, hb70⟩
      have o71 := Nat.le_trans X60.bd hn69
      have o72 := Nat.le_trans X61.bd hn69
      have o73 := Nat.le_trans X62.bd hn69
      have o74 := Nat.le_trans X63.bd hn69
      have o75 := Nat.le_trans X65.bd hn69
      have ne76 : b4 ≠ b66 := by have := hb64.lt; omega
      have X77 := Ext.trans X60 hx68
      have X78 := Ext.trans X61 hx68
      have X79 := Ext.trans X62 hx68
      have X80 := Ext.trans X63 hx68
      have X81 := Ext.trans X65 hx68
      have hb82 := hb64.ext hx68
      have X83 := Ext.refl H67
      refine AL.w0 (.inl rfl) (WV.st rfl rfl va30 rfl hb70 (Nat.le_of_ble_eq_true rfl) (one_cons rfl (one_cons (sl_one1 (hr58.ext X81).isSl) (one_cons (sl_one1 (hr59.ext X81).isSl) one_nil)))) ?_
      rintro _ H84 ⟨hx85, hb86⟩
      have X87 := Ext.thru X77 hx85 (fun z_ hz_ => by rw [hz_]; exact o71)
      have X88 := Ext.thru X78 hx85 (fun z_ hz_ => by rw [hz_]; exact o72)
      have X89 := Ext.thru X79 hx85 (fun z_ hz_ => by rw [hz_]; exact o73)
      have X90 := Ext.thru X80 hx85 (fun z_ hz_ => by rw [hz_]; exact o74)
      have X91 := Ext.thru X81 hx85 (fun z_ hz_ => by rw [hz_]; exact o75)
      have hb93 := hb82.but hx85 ne76
      have hb94 : At W H84 b66 ⟨30, [.int .i64 n, u52, v53], 3⟩ := hb86
      refine AL.nx ?_
      refine AW.rs ?_
      refine AL.val rfl (.inl rfl) (HV.mv rfl) ?_
      refine AL.w rfl (.inl rfl) (WV.call fn18 rfl (toS_ok (hgr.ext X87) (by omega))) ?_
      rintro v95 H96 ⟨hx97, ho98⟩
      have X100 := Ext.trans X87 hx97
      have X101 := Ext.trans X88 hx97
      have X102 := Ext.trans X89 hx97
      have X103 := Ext.trans X90 hx97
      have X104 := Ext.trans X91 hx97
      have hb105 := hb93.ext hx97
      have hb106 := hb94.ext hx97
      have X107 := Ext.refl H96
      have hr99 := ho98.rd
      refine AL.val rfl (.inl rfl) (HV.as rfl) ?_
      refine AL.nx ?_
      refine AW.rs ?_
      refine AL.val rfl (.inl rfl) (HV.lda (cs := [.int .i64 n, u52, v53]) rfl va30 (at_cells hb106 rfl)) ?_
      refine AL.val rfl (.inl rfl) (HV.mv rfl) ?_
      refine AL.w rfl (.inl rfl) (WV.call fn24 rfl (implGC_ok n (hr58.ext X104) (hr59.ext X104) hr99)) ?_
      rintro _ H108 ⟨rfl, hx109⟩
      have X110 := Ext.trans X100 hx109
      have X111 := Ext.trans X101 hx109
      have X112 := Ext.trans X102 hx109
      have X113 := Ext.trans X103 hx109
      have X114 := Ext.trans X104 hx109
      have X115 := Ext.trans X107 hx109
      have hb116 := hb105.ext hx109
      have hb117 := hb106.ext hx109
      refine AL.val rfl (.inl rfl) (HV.mv rfl) ?_
      refine AL.val rfl (.inl rfl) (HV.ex rfl rfl) ?_
      refine AL.val rfl (.inl rfl) (HV.ex rfl rfl) ?_
      refine AL.val rfl (.inl rfl) (HV.ex rfl rfl) ?_
      refine AL.val rfl (.inl rfl) (HV.as rfl) ?_
      refine AL.val rfl (.inl rfl) (HV.as rfl) ?_
      refine AL.val rfl (.inl rfl) (HV.as rfl) ?_
      refine AL.nx ?_
      refine AW.seq ?_
      refine AW.rs ?_
      refine AL.val rfl (.inl rfl) (HV.mv rfl) ?_
      refine AL.val rfl (.inl rfl) (HV.mv rfl) ?_
      refine AL.val rfl (.inl rfl) (HV.nei rfl rfl) ?_
      refine AL.val rfl (.inl rfl) (HV.mv rfl) ?_
      by_cases c118 : (if (codeT n s l g) = 0 then (bestV (seeV n g l (l).length)) / (gcdI (bestV (seeV n g l (l).length)) ((l).length : Int)) else 0) ≠ (if (codeT n s l g) = 0 then (bestV (seeV n g l (l).length)) / (gcdI (bestV (seeV n g l (l).length)) ((l).length : Int)) else 0)
      · -- true
        have c118_ : decide ((if (codeT n s l g) = 0 then (bestV (seeV n g l (l).length)) / (gcdI (bestV (seeV n g l (l).length)) ((l).length : Int)) else 0) ≠ (if (codeT n s l g) = 0 then (bestV (seeV n g l (l).length)) / (gcdI (bestV (seeV n g l (l).length)) ((l).length : Int)) else 0)) = true := decide_eq_true c118
        rw [c118_]
        refine AL.off rfl rfl (by decide) rfl ?_
        refine AL.off rfl rfl (by decide) rfl ?_
        refine AL.off rfl rfl (by decide) rfl ?_
        refine AL.val rfl (.inl rfl) (HV.pickT rfl rfl) ?_
        refine AL.val rfl (.inl rfl) (HV.mv rfl) ?_
        refine AL.off rfl rfl (by decide) rfl ?_
        refine AL.off rfl rfl (by decide) rfl ?_
        refine AL.off rfl rfl (by decide) rfl ?_
        refine AL.val rfl (.inl rfl) (HV.pickT rfl rfl) ?_
        refine AL.nx ?_
        refine AW.cond rfl (fun _ => ?_) (fun h => by cases h)
        refine AW.rs ?_
        refine AL.val rfl (.inl rfl) (HV.as rfl) ?_
        refine AL.nx ?_
        refine AW.ret ?_
        refine ret_and ?_
        refine post_one rfl rfl ?_ (.inr rfl)
        exact absurd c118 (by simp)
      · -- false
        have c118_ : decide ((if (codeT n s l g) = 0 then (bestV (seeV n g l (l).length)) / (gcdI (bestV (seeV n g l (l).length)) ((l).length : Int)) else 0) ≠ (if (codeT n s l g) = 0 then (bestV (seeV n g l (l).length)) / (gcdI (bestV (seeV n g l (l).length)) ((l).length : Int)) else 0)) = false := decide_eq_false c118
        rw [c118_]
        refine AL.val rfl (.inr ⟨_, _, _, rfl, rfl, rfl⟩) (HV.mv rfl) ?_
        refine AL.val rfl (.inr ⟨_, _, _, rfl, rfl, rfl⟩) (HV.mv rfl) ?_
        refine AL.val rfl (.inr ⟨_, _, _, rfl, rfl, rfl⟩) (HV.nei rfl rfl) ?_
        refine AL.val rfl (.inl rfl) (HV.pickF rfl rfl) ?_
        refine AL.val rfl (.inl rfl) (HV.mv rfl) ?_
        by_cases c120 : (if (codeT n s l g) = 0 then ((l).length : Int) / (gcdI (bestV (seeV n g l (l).length)) ((l).length : Int)) else 0) ≠ (if (codeT n s l g) = 0 then ((l).length : Int) / (gcdI (bestV (seeV n g l (l).length)) ((l).length : Int)) else 0)
        · -- true
          have c120_ : decide ((if (codeT n s l g) = 0 then ((l).length : Int) / (gcdI (bestV (seeV n g l (l).length)) ((l).length : Int)) else 0) ≠ (if (codeT n s l g) = 0 then ((l).length : Int) / (gcdI (bestV (seeV n g l (l).length)) ((l).length : Int)) else 0)) = true := decide_eq_true c120
          rw [c120_]
          refine AL.off rfl rfl (by decide) rfl ?_
          refine AL.off rfl rfl (by decide) rfl ?_
          refine AL.off rfl rfl (by decide) rfl ?_
          refine AL.val rfl (.inl rfl) (HV.pickT rfl rfl) ?_
          refine AL.nx ?_
          refine AW.cond rfl (fun _ => ?_) (fun h => by cases h)
          refine AW.rs ?_
          refine AL.val rfl (.inl rfl) (HV.as rfl) ?_
          refine AL.nx ?_
          refine AW.ret ?_
          refine ret_and ?_
          refine post_one rfl rfl ?_ (.inr rfl)
          exact absurd c120 (by simp)
        · -- false
          have c120_ : decide ((if (codeT n s l g) = 0 then ((l).length : Int) / (gcdI (bestV (seeV n g l (l).length)) ((l).length : Int)) else 0) ≠ (if (codeT n s l g) = 0 then ((l).length : Int) / (gcdI (bestV (seeV n g l (l).length)) ((l).length : Int)) else 0)) = false := decide_eq_false c120
          rw [c120_]
          refine AL.val rfl (.inr ⟨_, _, _, rfl, rfl, rfl⟩) (HV.mv rfl) ?_
          refine AL.val rfl (.inr ⟨_, _, _, rfl, rfl, rfl⟩) (HV.mv rfl) ?_
          refine AL.val rfl (.inr ⟨_, _, _, rfl, rfl, rfl⟩) (HV.nei rfl rfl) ?_
          refine AL.val rfl (.inl rfl) (HV.pickF rfl rfl) ?_
          refine AL.nx ?_
          refine AW.ifd rfl (fun c122 => ?_) (fun c122 => ?_)
          · -- then
            refine AW.rs ?_
            refine AL.val rfl (.inl rfl) (HV.as rfl) ?_
            refine AL.nx ?_
            refine AW.ret ?_
            refine ret_and ?_
            refine post_one rfl rfl ?_ (.inr rfl)
            exact absurd c122 (by simp)
          · -- else
            refine AW.skip ?_
            refine nrm_and ?_
            refine AW.seq ?_
            refine AW.seq ?_
            refine AW.draw' [0, 0, 2, 7, 15] mixed (by rfl) ?_
            refine Dr.read 0 _ 55 _ rfl rfl rfl rfl rfl (RV.of (by intro _ _ h; cases h) (.inl rfl) (fun _ xd => HV.lda (cs := [.int .i64 n, u52, v53]) rfl va30 (fun j u hu => rdc_ext xd ((at_cells hb117 rfl) j u hu)))) ?_
            refine Dr.read 1 _ 56 _ rfl rfl rfl rfl rfl (RV.of (by intro _ _ h; cases h) (.inl rfl) (fun _ xd => HV.lda (cs := [.int .i64 n, vs, v]) rfl va25 (fun j u hu => rdc_ext xd ((at_cells hb116 rfl) j u hu)))) ?_
            refine Dr.eff 2 _ _ rfl (by intro d h; cases h; exact ⟨rfl, rfl⟩) rfl rfl rfl (EC.of (by intro _ _ h; cases h) (.inl rfl) (WV.call fn12 rfl (toTable_ok n (hs.ext X110) (hr.ext X110) (he18 (by omega)).1 (he18 (by omega)).2))) (fun v H' h => .inl (h.2)) ?_
            rintro _ H125 ⟨⟨u123, v124, rfl, ho127, ho128⟩, hx126⟩
            have X131 := Ext.trans X110 hx126
            have X132 := Ext.trans X111 hx126
            have X133 := Ext.trans X112 hx126
            have X134 := Ext.trans X113 hx126
            have X135 := Ext.trans X114 hx126
            have X136 := Ext.trans X115 hx126
            have hb137 := hb116.ext hx126
            have hb138 := hb117.ext hx126
            have X139 := Ext.refl H125
            have hr129 := ho127.rd
            have hr130 := ho128.rd.le (le_P (Le.refl _) (le_OR (Le.refl _)))
            refine Dr.eff 3 _ _ rfl (by intro d h; cases h; exact ⟨rfl, rfl⟩) rfl rfl rfl (EC.of (by intro _ _ h; cases h) (.inl rfl) (WV.call fn14 rfl (eqTable_ok n n (hr58.ext X135) (hr59.ext X135) hr129 hr130))) (fun v H' h => .inl (h.2)) ?_
            rintro _ H140 ⟨rfl, hx141⟩
            have X142 := Ext.trans X131 hx141
            have X143 := Ext.trans X132 hx141
            have X144 := Ext.trans X133 hx141
            have X145 := Ext.trans X134 hx141
            have X146 := Ext.trans X135 hx141
            have X147 := Ext.trans X136 hx141
            have X148 := Ext.trans X139 hx141
            have hb149 := hb137.ext hx141
            have hb150 := hb138.ext hx141
            refine Dr.read 4 _ 59 _ rfl rfl rfl rfl rfl (RV.of (by intro _ _ h; cases h) (.inl rfl) (fun _ xd => HV.not rfl)) ?_
            refine Dr.fin rfl ?_
            refine nrm_and ?_
            refine AW.ifn rfl (fun c151 => ?_) (fun c151 => ?_)
            · -- then
              refine AW.rs ?_
              refine AL.val rfl (.inl rfl) (HV.as rfl) ?_
              refine AL.nx ?_
              refine AW.ret ?_
              refine ret_and ?_
              refine post_one rfl rfl ?_ (.inr rfl)
              exact absurd c151 (by simp)
            · -- else
              refine AW.skip ?_
              refine nrm_and ?_
              refine AW.seq ?_
              refine AW.rs ?_
              refine AL.val rfl (.inl rfl) (HV.mv rfl) ?_
              refine AL.val rfl (.inl rfl) (HV.mv rfl) ?_
              refine AL.w rfl (.inl rfl) (WV.call fn18 rfl (toS_ok (hgr.ext X142) (by omega))) ?_
              rintro v152 H153 ⟨hx154, ho155⟩
              have X157 := Ext.trans X142 hx154
              have X158 := Ext.trans X143 hx154
              have X159 := Ext.trans X144 hx154
              have X160 := Ext.trans X145 hx154
              have X161 := Ext.trans X146 hx154
              have X162 := Ext.trans X147 hx154
              have X163 := Ext.trans X148 hx154
              have hb164 := hb149.ext hx154
              have hb165 := hb150.ext hx154
              have X166 := Ext.refl H153
              have hr156 := ho155.rd
              refine AL.w rfl (.inl rfl) (WV.call fn20 rfl (eqS_ok (hr99.ext X162) hr156)) ?_
              rintro _ H167 ⟨rfl, hx168⟩
              have X169 := Ext.trans X157 hx168
              have X170 := Ext.trans X158 hx168
              have X171 := Ext.trans X159 hx168
              have X172 := Ext.trans X160 hx168
              have X173 := Ext.trans X161 hx168
              have X174 := Ext.trans X162 hx168
              have X175 := Ext.trans X163 hx168
              have X176 := Ext.trans X166 hx168
              have hb177 := hb164.ext hx168
              have hb178 := hb165.ext hx168
              refine AL.val rfl (.inl rfl) (HV.not rfl) ?_
              refine AL.nx ?_
              refine AW.ifn rfl (fun c179 => ?_) (fun c179 => ?_)
              · -- then
                refine AW.rs ?_
                refine AL.val rfl (.inl rfl) (HV.as rfl) ?_
                refine AL.nx ?_
                refine AW.ret ?_
                refine ret_and ?_
                refine post_one rfl rfl ?_ (.inr rfl)
                exact absurd c179 (by simp)
              · -- else
                refine AW.skip ?_
                refine nrm_and ?_
                refine AW.rs ?_
                refine AL.val rfl (.inl rfl) (HV.as rfl) ?_
                refine AL.nx ?_
                refine AW.ret ?_
                refine post_one rfl rfl ?_ (.inr rfl)
                exact ⟨rfl, X169⟩
end Go.Proofs.Ytfjihanfiliniaa.VC
