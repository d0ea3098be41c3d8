/- Walks. -/
import Derived.Test.YtonpikcbmgmchaaVI
set_option linter.unusedVariables false
set_option linter.unusedSimpArgs false
namespace Go.Proofs.Ytonpikcbmgmchaa.VC
open Go Go.RowKit
variable {W : World} {H : Hp}

/-! ### Enrolling, all of it -/
open VI (dl dl_fst enr_join)
theorem prime_of {p : Int} (h : p ∈ ([5, 7, 11, 13] : List Int)) : primeI p ∧ 5 ≤ p ∧ p ≤ 13 := by
  have key : ∀ q : Int, q = 5 ∨ q = 7 ∨ q = 11 ∨ q = 13 → primeI q := fun q hq => ⟨by omega, fun e h1 h2 h3 => by
    have he : e = 2 ∨ e = 3 := by
      have : e ≤ 3 := by
        rcases Int.lt_or_le 3 e with g | g
        · have := Int.mul_le_mul (show (4 : Int) ≤ e by omega) (show (4 : Int) ≤ e by omega) (by decide) (by omega); omega
        · exact g
      omega
    rcases he with rfl | rfl <;> omega⟩
  have : p = 5 ∨ p = 7 ∨ p = 11 ∨ p = 13 := by simpa using h
  exact ⟨key p this, by omega⟩
theorem slice_ok {i n : Int} (h : 0 ≤ i) (h2 : i < n) (h3 : n ≤ 10) : 0 ≤ i * (n - 1) ∧ i * (n - 1) ≤ (i + 1) * (n - 1) ∧ (i + 1) * (n - 1) ≤ n * (n - 1) ∧ n * (n - 1) ≤ 90 ∧ (i + 1) * (n - 1) = i * (n - 1) + (n - 1) := by
  have a1 := Int.mul_nonneg h (show 0 ≤ n - 1 by omega)
  have a2 : (i + 1) * (n - 1) = i * (n - 1) + (n - 1) := by rw [Int.add_mul, Int.one_mul]
  have a3 := Int.mul_le_mul_of_nonneg_right (show i + 1 ≤ n by omega) (show 0 ≤ n - 1 by omega)
  have a4 := Int.mul_le_mul (show n ≤ 10 by omega) (show n - 1 ≤ 9 by omega) (show 0 ≤ n - 1 by omega) (by decide)
  omega
theorem cut_row {p n : Int} {A : List Int} {lo hi : Int} (h : elems p A) (h0 : 0 ≤ lo) (h1 : hi = lo + (n - 1)) (h2 : hi ≤ A.length) (hn : 1 ≤ n) : rowOk n p ((A.take hi.toNat).drop lo.toNat) := by
  have hl : ((A.take hi.toNat).drop lo.toNat).length = hi.toNat - lo.toNat := by rw [List.length_drop, List.length_take]; omega
  refine ⟨by rw [hl]; omega, fun j hj => ?_⟩
  rw [hl] at hj
  have := h (lo.toNat + j) (by omega)
  simp only [List.getD_eq_getElem?_getD, List.getElem?_drop, List.getElem?_take] at this ⊢
  rw [if_pos (by omega)]
  exact this
theorem rows_snoc {n p : Int} {k : List (List Int)} {x : List Int} (h : rowsOk n p k) (hx : rowOk n p x) : rowsOk n p (k ++ [x]) := fun j hj => by
  rcases Nat.lt_or_ge j k.length with h1 | h1
  · have := h j h1
    have e : (k ++ [x]).getD j [] = k.getD j [] := by simp only [List.getD_eq_getElem?_getD]; rw [List.getElem?_append_left h1]
    rw [e]; exact this
  · have e : j = k.length := by simp at hj; omega
    subst e
    have e2 : (k ++ [x]).getD k.length [] = x := by simp [List.getD_eq_getElem?_getD]
    rw [e2]; exact hx
theorem vS_dl {p : Int} {c pts : List Int} (hp : primeI p) (hpt : ptsI p pts) : vS p (dl p c pts) := by
  refine ⟨hp, fun j hj => ?_, by rw [dl_fst]; exact hpt⟩
  have hj' : j < pts.length := by simpa [dl] using hj
  have := val_in (show 0 < p by have := hp.1; omega) c pts[j]
  simpa [dl, hj'] using this
theorem enr_rows {p : Int} {l : List (Int × Int)} {m : List (List Int)} {x : Int} (hp : 2 ≤ p) (h : gdE p l m x) : (enrN p l m x l.length).length = l.length ∧ ∀ j, j < (enrN p l m x l.length).length → ((enrN p l m x l.length).getD j []).length = (enrN p l m x l.length).length ∧ elems p ((enrN p l m x l.length).getD j []) := by
  have hl : (enrN p l m x l.length).length = l.length := by simp [enrN]
  refine ⟨hl, fun j hj => ?_⟩
  rw [hl] at hj ⊢
  have e : (enrN p l m x l.length).getD j [] = enrE p l m x j := by simp [enrN, hj]
  have hr := h.2 j (by have := h.1.2; omega)
  rw [e]
  refine ⟨by simp only [enrE, List.length_append, List.length_singleton]; have := hr.1; omega, ?_⟩
  unfold enrE
  refine elems_snoc hr.2 ?_
  have := lastE_in (p := p) (by omega) (emod_bd (show 0 < p by omega) ((wts p (l.map Prod.fst) x (l.map Prod.fst).length).getD j 0 * (l.getD j (0, 0)).2)) (m.getD j [])
  omega
set_option maxRecDepth 100000 in
theorem law_Enrol {vc vd : Value} {l l2 : List Int} (hr : RdK kU8 W H (fun _ => False) vc l) (hby : bytes l) (hr2 : RdK kU8 W H (fun _ => False) vd l2) (hby2 : bytes l2) : ACalls Try.prog W 10 #[vc, vd] H (fun r H' => r = .bool true ∧ Ext H H') := by
  refine ACalls.of (args := [vc, vd]) Try.func10 rfl rfl ?_
  have X0 := Ext.refl H
  have hm1 := hr.max
  have hm2 := hr2.max
  refine AW.rs ?_
  refine AL.val rfl (.inl rfl) (HV.as rfl) ?_
  refine AL.nx ?_
  refine AW.seq ?_
  refine AW.rs ?_
  refine AL.val rfl (.inl rfl) (HV.mv rfl) ?_
  refine AL.w rfl (.inl rfl) (WV.call fn41 rfl (f6big_ok hr)) ?_
  rintro _ H3 ⟨rfl, hx4⟩
  have X5 := Ext.trans X0 hx4
  refine AL.val rfl (.inl rfl) (HV.mv rfl) ?_
  by_cases c6 : (l.length : Int) > 4096
  · -- true
    have c6_ : decide ((l.length : Int) > 4096) = true := decide_eq_true c6
    rw [c6_]
    refine AL.off rfl rfl (by decide) rfl ?_
    refine AL.off rfl rfl (by decide) rfl ?_
    refine AL.val rfl (.inl rfl) (HV.pickT rfl rfl) ?_
    refine AL.nx ?_
    refine AW.cond rfl (fun _ => ?_) (fun h => by cases h)
    refine AW.rs ?_
    refine AL.val rfl (.inl rfl) (HV.as rfl) ?_
    refine AL.nx ?_
    refine AW.ret ?_
    refine ret_and ?_
    refine post_one rfl rfl ?_ (.inr rfl)
    exact ⟨rfl, X5⟩
  · -- false
    have c6_ : decide ((l.length : Int) > 4096) = false := decide_eq_false c6
    rw [c6_]
    refine AL.val rfl (.inr ⟨_, _, _, rfl, rfl, rfl⟩) (HV.mv rfl) ?_
    refine AL.w rfl (.inr ⟨_, _, _, rfl, rfl, rfl⟩) (WV.call fn41 rfl (f6big_ok (hr2.ext X5))) ?_
    rintro _ H8 ⟨rfl, hx9⟩
    have X10 := Ext.trans X5 hx9
    refine AL.val rfl (.inl rfl) (HV.pickF rfl rfl) ?_
    refine AL.nx ?_
    refine AW.ifd rfl (fun c11 => ?_) (fun c11 => ?_)
    · -- then
      refine AW.rs ?_
      refine AL.val rfl (.inl rfl) (HV.as rfl) ?_
      refine AL.nx ?_
      refine AW.ret ?_
      refine ret_and ?_
      refine post_one rfl rfl ?_ (.inr rfl)
      exact ⟨rfl, X10⟩
    · -- else
      refine AW.skip ?_
      refine nrm_and ?_
      refine AW.rs ?_
      refine AL.val rfl (.inl rfl) (HV.mv rfl) ?_
      refine AL.w rfl (.inl rfl) (WV.call fn42 rfl (p6Prime_ok (hr.ext X10) hby)) ?_
      rintro _ H12 ⟨⟨p, rfl, h14⟩, hx13⟩
      have X15 := Ext.trans X10 hx13
      have hP := prime_of h14
      refine AL.val rfl (.inl rfl) (HV.as rfl) ?_
      refine AL.nx ?_
      refine AW.rs ?_
      refine AL.val rfl (.inl rfl) (HV.mv rfl) ?_
      refine AL.val rfl (.inl rfl) (HV.mv rfl) ?_
      refine AL.w rfl (.inl rfl) (WV.call fn43 rfl (p6Curve_ok (hr.ext X15) hby p 2 (by omega) (by omega))) ?_
      rintro v16 H17 ⟨⟨cv, ho19, h20⟩, hx18⟩
      have X22 := Ext.trans X15 hx18
      have X23 := Ext.refl H17
      have hr21 := ho19.rd
      have hcv := h20.1
      have hcvl := h20.2
      refine AL.val rfl (.inl rfl) (HV.as rfl) ?_
      refine AL.nx ?_
      refine AW.rs ?_
      refine AL.val rfl (.inl rfl) (HV.mv rfl) ?_
      refine AL.val rfl (.inl rfl) (HV.mv rfl) ?_
      refine AL.w rfl (.inl rfl) (WV.call fn44 rfl (p6Points_ok (hr2.ext X22) hby2 p 3 (by omega) (by omega))) ?_
      rintro v24 H25 ⟨⟨pts, ho27, h28⟩, hx26⟩
      have X30 := Ext.trans X22 hx26
      have X31 := Ext.trans X23 hx26
      have X32 := Ext.refl H25
      have hr29 := ho27.rd
      have hpt : ptsI p pts := ⟨by have := h28.2.1; omega, h28.1⟩
      have hpl := h28.2.2
      have hpl10 := h28.2.1
      refine AL.val rfl (.inl rfl) (HV.as rfl) ?_
      refine AL.nx ?_
      refine AW.rs ?_
      refine AL.val rfl (.inl rfl) (HV.mv rfl) ?_
      refine AL.val rfl (.inl rfl) (HV.mv rfl) ?_
      refine AL.w rfl (.inl rfl) (WV.call fn45 rfl (p6Pick_ok (hr2.ext X30) hby2 p)) ?_
      rintro _ H33 ⟨⟨x, rfl, h35⟩, hx34⟩
      have X36 := Ext.trans X30 hx34
      have X37 := Ext.trans X31 hx34
      have X38 := Ext.trans X32 hx34
      have hxx := h35
      refine AL.val rfl (.inl rfl) (HV.as rfl) ?_
      refine AL.nx ?_
      refine AW.rs ?_
      refine AL.val rfl (.inl rfl) (HV.mv rfl) ?_
      refine AL.val rfl (.inl rfl) (HV.mv rfl) ?_
      refine AL.val rfl (.inl rfl) (HV.mv rfl) ?_
      refine AL.w rfl (.inl rfl) (WV.call fn50 rfl (dealSh_ok p (hr21.ext X37) (hr29.ext X38) ⟨hP.1, hcv⟩ hpt)) ?_
      rintro _ H40 ⟨⟨v39, rfl, ho42⟩, hx41⟩
      have X44 := Ext.trans X36 hx41
      have X45 := Ext.trans X37 hx41
      have X46 := Ext.trans X38 hx41
      have X47 := Ext.refl H40
      have hr43 : RdK (kP kI kI) W H40 _ v39 (dl p cv pts) := ho42.rd
      refine AL.val rfl (.inl rfl) (HV.mv rfl) ?_
      refine AL.val rfl (.inl rfl) (HV.ex rfl rfl) ?_
      refine AL.val rfl (.inl rfl) (HV.ex rfl rfl) ?_
      refine AL.val rfl (.inl rfl) (HV.as rfl) ?_
      refine AL.val rfl (.inl rfl) (HV.as rfl) ?_
      refine AL.nx ?_
      refine AW.rs ?_
      refine AL.val rfl (.inl rfl) (HV.mv rfl) ?_
      refine AL.val rfl (.inl rfl) (HV.len Try.underlying24 rfl hr29.isSl) ?_
      refine AL.val rfl (.inl rfl) (HV.as rfl) ?_
      refine AL.nx ?_
      refine AW.rs ?_
      refine AL.val rfl (.inl rfl) (HV.mv rfl) ?_
      refine AL.val rfl (.inl rfl) (HV.mv rfl) ?_
      refine AL.val rfl (.inl rfl) (HV.mv rfl) ?_
      refine AL.val rfl (.inl rfl) (HV.mv rfl) ?_
      refine AL.val rfl (.inl rfl) (HV.sub rfl rfl (by omega)) ?_
      refine AL.val rfl (.inl rfl) (HV.mul rfl rfl (by have := slice_ok (i := 0) (n := (pts.length : Int)) (by omega) (by omega) (by omega); omega)) ?_
      refine AL.w rfl (.inl rfl) (WV.call fn51 rfl (p6Res_ok (hr2.ext X44) hby2 p _ (by omega) (by have := slice_ok (i := 0) (n := (pts.length : Int)) (by omega) (by omega) (by omega); omega))) ?_
      rintro v48 H49 ⟨⟨A, ho51, h52⟩, hx50⟩
      have X54 := Ext.trans X44 hx50
      have X55 := Ext.trans X45 hx50
      have X56 := Ext.trans X46 hx50
      have X57 := Ext.trans X47 hx50
      have X58 := Ext.refl H49
      have hr53 := ho51.rd
      have hA1 := h52.1
      have hA2 := h52.2
      have hdl : (dl p cv pts).length = pts.length := by simp [dl]
      refine AL.val rfl (.inl rfl) (HV.as rfl) ?_
      refine AL.nx ?_
      refine AW.rs ?_
      have o59 := X54.bd
      have o60 := X55.bd
      have o61 := X56.bd
      have o62 := X57.bd
      have o63 := X58.bd
      refine AL.w rfl (.inl rfl) (WV.bsK (K := (kR kI)) (l := ([] : List (List Int))) (css := []) sl36 rfl rfl (by first | rfl | simp [Instr.fill]) rfl segs_nil) ?_
      rintro v64 H65 ⟨hx66, ho67⟩
      have X70 := Ext.trans X54 hx66
      have X71 := Ext.trans X55 hx66
      have X72 := Ext.trans X56 hx66
      have X73 := Ext.trans X57 hx66
      have X74 := Ext.trans X58 hx66
      have ho68 := ho67.okk (ok' := fun b => H40.bd ≤ b) (fun b hb _ => Nat.le_trans o62 hb)
      have vb69 : ∀ b, some b = v64.ownBlock → H49.bd ≤ b := fun b h => (ho67.blk b h).1
      refine AL.val rfl (.inl rfl) (HV.as rfl) ?_
      refine AL.nx ?_
      refine AW.seq ?_
      refine AW.rs ?_
      refine AL.val rfl (.inl rfl) (HV.as rfl) ?_
      refine AL.nx ?_
      refine AW.block ?_
      refine AW.loop (σ := Nat × Value × List (List Int)) (fun ⟨i, vv, k⟩ => [(4, .bool false), (5, .int .i64 p), (6, v16), (8, .int .i64 x), (9, v39), (10, .int .i64 0), (11, .int .i64 (pts.length : Int)), (12, v48), (13, vv), (14, .int .i64 (i : Int))]) (fun ⟨i, vv, k⟩ H' => Ext H H' ∧ Ext H17 H' ∧ Ext H25 H' ∧ Ext H40 H' ∧ Ext H49 H' ∧ i ≤ pts.length ∧ k.length = i ∧ rowsOk (pts.length : Int) p k ∧ OwnK (kR kI) 24 W H' (fun b => H40.bd ≤ b) vv k ∧ (∀ b, some b = vv.ownBlock → H49.bd ≤ b) ∧ True) (fun ⟨i, vv, k⟩ => pts.length - i) (0, v64, ([] : List (List Int))) ⟨X70, X71, X72, X73, X74, Nat.zero_le _, rfl, (fun j hj => absurd hj (Nat.not_lt_zero _)), ho68, vb69, trivial⟩ ⟨rfl, rfl, rfl, rfl, rfl, rfl, rfl, rfl, rfl, rfl, trivial⟩ ?_
      rintro ⟨i, vv, k⟩ H76 ⟨X77, X78, X79, X80, X81, hi, hk2, hrows, hoL, hvb, _⟩
      refine AW.seq ?_
      refine AW.rs ?_
      refine AL.val rfl (.inl rfl) (HV.mv rfl) ?_
      refine AL.val rfl (.inl rfl) (HV.mv rfl) ?_
      refine AL.val rfl (.inl rfl) (HV.lti rfl rfl) ?_
      refine AL.nx ?_
      refine AW.ifd rfl (fun c82 => ?_) (fun c82 => ?_)
      · -- then
        refine AW.skip ?_
        refine nrm_and ?_
        refine AW.seq ?_
        refine AW.block ?_
        refine AW.reg ?_
        have hso := slice_ok (i := (i : Int)) (n := (pts.length : Int)) (by omega) (by omega) (by omega)
        refine AL.val rfl (.inl rfl) (HV.mv rfl) ?_
        refine AL.val rfl (.inl rfl) (HV.mv rfl) ?_
        refine AL.val rfl (.inl rfl) (HV.mv rfl) ?_
        refine AL.val rfl (.inl rfl) (HV.mv rfl) ?_
        refine AL.val rfl (.inl rfl) (HV.sub rfl rfl (by omega)) ?_
        refine AL.val rfl (.inl rfl) (HV.mul rfl rfl (by omega)) ?_
        refine AL.val rfl (.inl rfl) (HV.mv rfl) ?_
        refine AL.val rfl (.inl rfl) (HV.add rfl rfl (by omega)) ?_
        refine AL.val rfl (.inl rfl) (HV.mv rfl) ?_
        refine AL.val rfl (.inl rfl) (HV.sub rfl rfl (by omega)) ?_
        refine AL.val rfl (.inl rfl) (HV.mul rfl rfl (by omega)) ?_
        have X86 := Ext.refl H76
        obtain ⟨v83, hr84, hP85⟩ := RdK.cutLH (lo := (i : Int) * ((pts.length : Int) - 1)) (hi := ((i : Int) + 1) * ((pts.length : Int) - 1)) hr53 sl24 hso.1 hso.2.1 (by omega)
        refine AL.val rfl (.inl rfl) (hP85 rfl rfl rfl) ?_
        have o87 := X77.bd
        have o88 := X78.bd
        have o89 := X79.bd
        have o90 := X80.bd
        have o91 := X81.bd
        have o92 := X86.bd
        have a93 := hoL.ltb
        have hr100 := (hr84.okk (ok' := fun b => H40.bd ≤ b ∧ b < H49.bd) (fun b hb hlt => ⟨hb, Nat.lt_of_lt_of_le hlt (Nat.le_refl _)⟩))
        have hc101 : v83.cells = #[v83] := by obtain ⟨A, c, e⟩ := hr84.isSl; rw [e]; rfl
        refine AL.w rfl (.inl rfl) (WV.bsO (okx := fun b => H40.bd ≤ b ∧ b < H49.bd) (K := (kR kI)) (l := ([((A.take (((i : Int) + 1) * ((pts.length : Int) - 1) : Int).toNat).drop ((i : Int) * ((pts.length : Int) - 1) : Int).toNat)] : List (List Int))) (css := [[v83]]) sl36 rfl rfl (by simp [Instr.fill, hc101, kR, rng1]) rfl (segs_cons ⟨_, rfl, hr100.ext X81⟩ segs_nil)) ?_
        rintro v94 H95 ⟨hx96, ho97⟩
        have X102 := Ext.trans X77 hx96
        have X103 := Ext.trans X78 hx96
        have X104 := Ext.trans X79 hx96
        have X105 := Ext.trans X80 hx96
        have X106 := Ext.trans X81 hx96
        have X107 := Ext.trans X86 hx96
        have ho108 := hoL.ext hx96
        have X110 := Ext.refl H95
        refine AL.w rfl (.inl rfl) (WV.apk sl36 rfl rfl ho108 ho97.rd (by rw [hk2]; simp; omega) (by rw [hk2]; simp; omega) (fun b hb hlt e => hb.elim (fun q => by have h1 := hvb b e; have h2 := q.2; omega) (fun q => by have h1 := a93 b e; omega))) ?_
        rintro v111 H112 ⟨hx113, ho114, hb115⟩
        have q118 : H40.bd ≤ H95.bd := X105.bd
        have ho116 := ho114.okk (ok' := fun b => H40.bd ≤ b) (fun b hb _ => hb.elim id (fun h => h.elim (fun h => h.elim (fun q => q.1) (fun q => by have h3 := o90; omega)) (fun q => Nat.le_trans q118 q)))
        have vb117 : ∀ b, some b = v111.ownBlock → H49.bd ≤ b := fun b h => (hb115 b h).elim (fun e => hvb b e) (fun e => Nat.le_trans X106.bd e)
        have X119 := Ext.thru X102 hx113 (fun b hb => Nat.le_trans o59 (hvb b hb))
        have X120 := Ext.thru X103 hx113 (fun b hb => Nat.le_trans o60 (hvb b hb))
        have X121 := Ext.thru X104 hx113 (fun b hb => Nat.le_trans o61 (hvb b hb))
        have X122 := Ext.thru X105 hx113 (fun b hb => Nat.le_trans o62 (hvb b hb))
        have X123 := Ext.thru X106 hx113 (fun b hb => Nat.le_trans o63 (hvb b hb))
        refine AL.val rfl (.inl rfl) (HV.as rfl) ?_
        refine AL.nil ?_
        refine nrm_blk (nrm_and ?_)
        refine AW.reg ?_
        refine AL.val rfl (.inl rfl) (HV.mv rfl) ?_
        refine AL.val rfl (.inl rfl) (HV.add rfl rfl (by omega)) ?_
        refine AL.val rfl (.inl rfl) (HV.as rfl) ?_
        refine AL.nil ?_
        refine nrm_and ?_
        exact ⟨(i + 1, v111, (k ++ ([((A.take (((i : Int) + 1) * ((pts.length : Int) - 1) : Int).toNat).drop ((i : Int) * ((pts.length : Int) - 1) : Int).toNat)] : List (List Int)))), ⟨X119, X120, X121, X122, X123, by omega, by simp [hk2], rows_snoc hrows (cut_row hA2 hso.1 hso.2.2.2.2 (by omega) (by omega)), ho116, vb117, trivial⟩, by first | omega | (dsimp only; omega), ⟨rfl, rfl, rfl, rfl, rfl, rfl, rfl, rfl, rfl, rfl, trivial⟩⟩
      · -- else
        refine AW.exit ?_
        refine ex_and (ex_and (ex_blk ?_))
        refine nrm_and ?_
        refine AW.rs ?_
        have hrw : rowsOk ((dl p cv pts).length : Int) p k := by rw [hdl]; exact hrows
        have hgd : gdE p (dl p cv pts) k x := ⟨⟨by omega, by rw [hdl]; omega⟩, hrw⟩
        have hen := en0 (vS_dl hP.1 hpt) hgd (by rw [hdl]; omega)
        refine AL.val rfl (.inl rfl) (HV.mv rfl) ?_
        refine AL.val rfl (.inl rfl) (HV.mv rfl) ?_
        refine AL.val rfl (.inl rfl) (HV.mv rfl) ?_
        refine AL.val rfl (.inl rfl) (HV.mv rfl) ?_
        have X126 := Ext.refl H76
        have o127 := X77.bd
        have o128 := X78.bd
        have o129 := X79.bd
        have o130 := X80.bd
        have o131 := X81.bd
        have o132 := X126.bd
        have a133 := hoL.ltb
        refine AL.w rfl (.inl rfl) (WV.call fn36 rfl (implEn_ok p (hr43.ext X80) x hoL.rd (by rw [hdl]; omega))) ?_
        rintro _ H137 ⟨⟨v134, k135, rfl, hk136, ho139⟩, hx138⟩
        have X141 := Ext.trans X77 hx138
        have X142 := Ext.trans X78 hx138
        have X143 := Ext.trans X79 hx138
        have X144 := Ext.trans X80 hx138
        have X145 := Ext.trans X81 hx138
        have X146 := Ext.trans X126 hx138
        have ho147 := hoL.ext hx138
        have X148 := Ext.refl H137
        have hr140 := rd_ofO ho139.rd
        refine AL.val rfl (.inl rfl) (HV.mv rfl) ?_
        refine AL.val rfl (.inl rfl) (HV.ex rfl rfl) ?_
        refine AL.val rfl (.inl rfl) (HV.ex rfl rfl) ?_
        refine AL.val rfl (.inl rfl) (HV.as rfl) ?_
        refine AL.val rfl (.inl rfl) (HV.as rfl) ?_
        refine AL.nx ?_
        refine AW.rs ?_
        refine AL.val rfl (.inl rfl) (HV.mv rfl) ?_
        refine AL.val rfl (.inl rfl) (HV.mv rfl) ?_
        refine AL.val rfl (.inl rfl) (HV.mv rfl) ?_
        refine AL.val rfl (.inl rfl) (HV.mv rfl) ?_
        have o149 := X141.bd
        have o150 := X142.bd
        have o151 := X143.bd
        have o152 := X144.bd
        have o153 := X145.bd
        have o154 := X146.bd
        have o155 := X148.bd
        have a156 := ho147.ltb
        refine AL.w rfl (.inl rfl) (WV.call fn35 rfl (specEn_ok p (hr43.ext X144) x ho147.rd (by rw [hdl]; omega))) ?_
        rintro _ H160 ⟨⟨v157, k158, rfl, hk159, ho162⟩, hx161⟩
        have X164 := Ext.trans X141 hx161
        have X165 := Ext.trans X142 hx161
        have X166 := Ext.trans X143 hx161
        have X167 := Ext.trans X144 hx161
        have X168 := Ext.trans X145 hx161
        have X169 := Ext.trans X146 hx161
        have X170 := Ext.trans X148 hx161
        have ho171 := ho147.ext hx161
        have X172 := Ext.refl H160
        have hr163 := rd_ofO ho162.rd
        refine AL.val rfl (.inl rfl) (HV.mv rfl) ?_
        refine AL.val rfl (.inl rfl) (HV.ex rfl rfl) ?_
        refine AL.val rfl (.inl rfl) (HV.ex rfl rfl) ?_
        refine AL.val rfl (.inl rfl) (HV.as rfl) ?_
        refine AL.val rfl (.inl rfl) (HV.as rfl) ?_
        refine AL.nx ?_
        refine AW.seq ?_
        refine AW.rs ?_
        refine AL.val rfl (.inl rfl) (HV.mv rfl) ?_
        refine AL.val rfl (.inl rfl) (HV.nei rfl rfl) ?_
        refine AL.val rfl (.inl rfl) (HV.mv rfl) ?_
        by_cases c173 : (0 : Int) ≠ 0
        · -- true
          have c173_ : decide ((0 : Int) ≠ 0) = true := decide_eq_true c173
          rw [c173_]
          refine AL.off rfl rfl (by decide) rfl ?_
          refine AL.off rfl rfl (by decide) rfl ?_
          refine AL.off rfl rfl (by decide) rfl ?_
          refine AL.val rfl (.inl rfl) (HV.pickT rfl rfl) ?_
          refine AL.val rfl (.inl rfl) (HV.mv rfl) ?_
          refine AL.off rfl rfl (by decide) rfl ?_
          refine AL.off rfl rfl (by decide) rfl ?_
          refine AL.val rfl (.inl rfl) (HV.pickT rfl rfl) ?_
          refine AL.val rfl (.inl rfl) (HV.mv rfl) ?_
          refine AL.off rfl rfl (by decide) rfl ?_
          refine AL.off rfl rfl (by decide) rfl ?_
          refine AL.off rfl rfl (by decide) rfl ?_
          refine AL.off rfl rfl (by decide) rfl ?_
          refine AL.val rfl (.inl rfl) (HV.pickT rfl rfl) ?_
          refine AL.nx ?_
          refine AW.cond rfl (fun _ => ?_) (fun h => by cases h)
          refine AW.rs ?_
          refine AL.val rfl (.inl rfl) (HV.as rfl) ?_
          refine AL.nx ?_
          refine AW.ret ?_
          refine ret_and ?_
          refine post_one rfl rfl ?_ (.inr rfl)
          exfalso; first | omega | exact absurd (hk136.trans hk159.symm) c173 | (simp at c173; done) | exact absurd c173 (by simp)
        · -- false
          have c173_ : decide ((0 : Int) ≠ 0) = false := decide_eq_false c173
          rw [c173_]
          refine AL.val rfl (.inr ⟨_, _, _, rfl, rfl, rfl⟩) (HV.mv rfl) ?_
          refine AL.val rfl (.inr ⟨_, _, _, rfl, rfl, rfl⟩) (HV.mv rfl) ?_
          refine AL.val rfl (.inr ⟨_, _, _, rfl, rfl, rfl⟩) (HV.nei rfl rfl) ?_
          refine AL.val rfl (.inl rfl) (HV.pickF rfl rfl) ?_
          refine AL.val rfl (.inl rfl) (HV.mv rfl) ?_
          by_cases c175 : (enCode p (dl p cv pts) k x) ≠ (enCode p (dl p cv pts) k x)
          · -- true
            have c175_ : decide ((enCode p (dl p cv pts) k x) ≠ (enCode p (dl p cv pts) k x)) = true := decide_eq_true c175
            rw [c175_]
            refine AL.off rfl rfl (by decide) rfl ?_
            refine AL.off rfl rfl (by decide) rfl ?_
            refine AL.val rfl (.inl rfl) (HV.pickT rfl rfl) ?_
            refine AL.val rfl (.inl rfl) (HV.mv rfl) ?_
            refine AL.off rfl rfl (by decide) rfl ?_
            refine AL.off rfl rfl (by decide) rfl ?_
            refine AL.off rfl rfl (by decide) rfl ?_
            refine AL.off rfl rfl (by decide) rfl ?_
            refine AL.val rfl (.inl rfl) (HV.pickT rfl rfl) ?_
            refine AL.nx ?_
            refine AW.cond rfl (fun _ => ?_) (fun h => by cases h)
            refine AW.rs ?_
            refine AL.val rfl (.inl rfl) (HV.as rfl) ?_
            refine AL.nx ?_
            refine AW.ret ?_
            refine ret_and ?_
            refine post_one rfl rfl ?_ (.inr rfl)
            exfalso; first | omega | exact absurd (hk136.trans hk159.symm) c175 | (simp at c175; done) | exact absurd c175 (by simp)
          · -- false
            have c175_ : decide ((enCode p (dl p cv pts) k x) ≠ (enCode p (dl p cv pts) k x)) = false := decide_eq_false c175
            rw [c175_]
            refine AL.val rfl (.inr ⟨_, _, _, rfl, rfl, rfl⟩) (HV.mv rfl) ?_
            refine AL.val rfl (.inr ⟨_, _, _, rfl, rfl, rfl⟩) (HV.nei rfl rfl) ?_
            refine AL.val rfl (.inl rfl) (HV.pickF rfl rfl) ?_
            refine AL.val rfl (.inl rfl) (HV.mv rfl) ?_
            by_cases c177 : (enCode p (dl p cv pts) k x) ≠ 0
            · -- true
              have c177_ : decide ((enCode p (dl p cv pts) k x) ≠ 0) = true := decide_eq_true c177
              rw [c177_]
              refine AL.off rfl rfl (by decide) rfl ?_
              refine AL.off rfl rfl (by decide) rfl ?_
              refine AL.off rfl rfl (by decide) rfl ?_
              refine AL.off rfl rfl (by decide) rfl ?_
              refine AL.val rfl (.inl rfl) (HV.pickT rfl rfl) ?_
              refine AL.nx ?_
              refine AW.cond rfl (fun _ => ?_) (fun h => by cases h)
              refine AW.rs ?_
              refine AL.val rfl (.inl rfl) (HV.as rfl) ?_
              refine AL.nx ?_
              refine AW.ret ?_
              refine ret_and ?_
              refine post_one rfl rfl ?_ (.inr rfl)
              exfalso; first | omega | exact absurd (hk136.trans hk159.symm) c177 | (simp at c177; done) | exact absurd c177 (by simp)
            · -- false
              have c177_ : decide ((enCode p (dl p cv pts) k x) ≠ 0) = false := decide_eq_false c177
              rw [c177_]
              refine AL.val rfl (.inr ⟨_, _, _, rfl, rfl, rfl⟩) (HV.mv rfl) ?_
              refine AL.val rfl (.inr ⟨_, _, _, rfl, rfl, rfl⟩) (HV.mv rfl) ?_
              refine AL.w rfl (.inr ⟨_, _, _, rfl, rfl, rfl⟩) (WV.call fn52 rfl (f6rows_ok (hr140.ext X170) hr163)) ?_
              rintro _ H179 ⟨rfl, hx180⟩
              have X181 := Ext.trans X164 hx180
              have X182 := Ext.trans X165 hx180
              have X183 := Ext.trans X166 hx180
              have X184 := Ext.trans X167 hx180
              have X185 := Ext.trans X168 hx180
              have X186 := Ext.trans X169 hx180
              have X187 := Ext.trans X170 hx180
              have X188 := Ext.trans X172 hx180
              have ho189 := ho171.ext hx180
              refine AL.val rfl (.inr ⟨_, _, _, rfl, rfl, rfl⟩) (HV.not rfl) ?_
              refine AL.val rfl (.inl rfl) (HV.pickF rfl rfl) ?_
              refine AL.nx ?_
              refine AW.ifn rfl (fun c190 => ?_) (fun c190 => ?_)
              · -- then
                refine AW.rs ?_
                refine AL.val rfl (.inl rfl) (HV.as rfl) ?_
                refine AL.nx ?_
                refine AW.ret ?_
                refine ret_and ?_
                refine post_one rfl rfl ?_ (.inr rfl)
                exfalso; first | omega | exact absurd (hk136.trans hk159.symm) c190 | (simp at c190; done) | exact absurd c190 (by simp)
              · -- else
                refine AW.skip ?_
                refine nrm_and ?_
                refine AW.rs ?_
                have hdue : k158 = enrN p (dl p cv pts) k x (dl p cv pts).length := hk159.trans hen.2
                have her := enr_rows (show 2 ≤ p by omega) hgd
                rw [← hdue] at her
                have hdue2 : k158.length = (dl p cv pts).length := her.1
                have hfin := enr_join (m := k) (x := x) hP.1 hpt (show cv.length ≤ pts.length by omega)
                refine AL.val rfl (.inl rfl) (HV.mv rfl) ?_
                refine AL.val rfl (.inl rfl) (HV.mv rfl) ?_
                refine AL.w rfl (.inl rfl) (WV.call fn53 rfl (join_ok (hr163.ext X188) hP.1 (by omega) her.2)) ?_
                rintro _ H191 ⟨rfl, hx192⟩
                have X193 := Ext.trans X181 hx192
                have X194 := Ext.trans X182 hx192
                have X195 := Ext.trans X183 hx192
                have X196 := Ext.trans X184 hx192
                have X197 := Ext.trans X185 hx192
                have X198 := Ext.trans X186 hx192
                have X199 := Ext.trans X187 hx192
                have X200 := Ext.trans X188 hx192
                have ho201 := ho189.ext hx192
                refine AL.val rfl (.inl rfl) (HV.mv rfl) ?_
                refine AL.val rfl (.inl rfl) (HV.ex rfl rfl) ?_
                refine AL.val rfl (.inl rfl) (HV.ex rfl rfl) ?_
                refine AL.val rfl (.inl rfl) (HV.as rfl) ?_
                refine AL.val rfl (.inl rfl) (HV.as rfl) ?_
                refine AL.nx ?_
                refine AW.rs ?_
                refine AL.val rfl (.inl rfl) (HV.mv rfl) ?_
                refine AL.val rfl (.inl rfl) (HV.mv rfl) ?_
                refine AL.val rfl (.inl rfl) (HV.mv rfl) ?_
                refine AL.w rfl (.inl rfl) (WV.call fn48 rfl (cuAt_ok p (hr21.ext X194) x ⟨hP.1, hcv⟩ (by omega))) ?_
                rintro _ H202 ⟨rfl, hx203⟩
                have X204 := Ext.trans X193 hx203
                have X205 := Ext.trans X194 hx203
                have X206 := Ext.trans X195 hx203
                have X207 := Ext.trans X196 hx203
                have X208 := Ext.trans X197 hx203
                have X209 := Ext.trans X198 hx203
                have X210 := Ext.trans X199 hx203
                have X211 := Ext.trans X200 hx203
                have ho212 := ho201.ext hx203
                refine AL.val rfl (.inl rfl) (HV.mv rfl) ?_
                refine AL.val rfl (.inl rfl) (HV.ex rfl rfl) ?_
                refine AL.val rfl (.inl rfl) (HV.ex rfl rfl) ?_
                refine AL.val rfl (.inl rfl) (HV.as rfl) ?_
                refine AL.val rfl (.inl rfl) (HV.as rfl) ?_
                refine AL.nx ?_
                refine AW.rs ?_
                refine AL.val rfl (.inl rfl) (HV.mv rfl) ?_
                refine AL.val rfl (.inl rfl) (HV.eqi rfl rfl) ?_
                refine AL.val rfl (.inl rfl) (HV.mv rfl) ?_
                by_cases c213 : (0 : Int) = 0
                · -- true
                  have c213_ : decide ((0 : Int) = 0) = true := decide_eq_true c213
                  rw [c213_]
                  refine AL.val rfl (.inr ⟨_, _, _, rfl, rfl, rfl⟩) (HV.mv rfl) ?_
                  refine AL.val rfl (.inr ⟨_, _, _, rfl, rfl, rfl⟩) (HV.eqi rfl rfl) ?_
                  refine AL.val rfl (.inl rfl) (HV.pickT rfl rfl) ?_
                  refine AL.val rfl (.inl rfl) (HV.mv rfl) ?_
                  by_cases c214 : (0 : Int) = 0
                  · -- true
                    have c214_ : decide ((0 : Int) = 0) = true := decide_eq_true c214
                    rw [c214_]
                    refine AL.val rfl (.inr ⟨_, _, _, rfl, rfl, rfl⟩) (HV.mv rfl) ?_
                    refine AL.val rfl (.inr ⟨_, _, _, rfl, rfl, rfl⟩) (HV.mv rfl) ?_
                    refine AL.val rfl (.inr ⟨_, _, _, rfl, rfl, rfl⟩) (HV.eqi rfl rfl) ?_
                    refine AL.val rfl (.inl rfl) (HV.pickT rfl rfl) ?_
                    refine AL.val rfl (.inl rfl) (HV.as rfl) ?_
                    refine AL.nx ?_
                    refine AW.ret ?_
                    refine post_one rfl rfl ?_ (.inr rfl)
                    exact ⟨congrArg Value.bool (decide_eq_true (by rw [hdue2, hdue]; exact hfin)), X204⟩
                  · -- false
                    have c214_ : decide ((0 : Int) = 0) = false := decide_eq_false c214
                    rw [c214_]
                    refine AL.off rfl rfl (by decide) rfl ?_
                    refine AL.off rfl rfl (by decide) rfl ?_
                    refine AL.off rfl rfl (by decide) rfl ?_
                    refine AL.val rfl (.inl rfl) (HV.pickF rfl rfl) ?_
                    refine AL.val rfl (.inl rfl) (HV.as rfl) ?_
                    refine AL.nx ?_
                    refine AW.ret ?_
                    refine post_one rfl rfl ?_ (.inr rfl)
                    exfalso; first | omega | exact absurd (hk136.trans hk159.symm) c214 | (simp at c214; done) | exact absurd c214 (by simp)
                · -- false
                  have c213_ : decide ((0 : Int) = 0) = false := decide_eq_false c213
                  rw [c213_]
                  refine AL.off rfl rfl (by decide) rfl ?_
                  refine AL.off rfl rfl (by decide) rfl ?_
                  refine AL.val rfl (.inl rfl) (HV.pickF rfl rfl) ?_
                  refine AL.val rfl (.inl rfl) (HV.mv rfl) ?_
                  refine AL.off rfl rfl (by decide) rfl ?_
                  refine AL.off rfl rfl (by decide) rfl ?_
                  refine AL.off rfl rfl (by decide) rfl ?_
                  refine AL.val rfl (.inl rfl) (HV.pickF rfl rfl) ?_
                  refine AL.val rfl (.inl rfl) (HV.as rfl) ?_
                  refine AL.nx ?_
                  refine AW.ret ?_
                  refine post_one rfl rfl ?_ (.inr rfl)
                  exfalso; first | omega | exact absurd (hk136.trans hk159.symm) c213 | (simp at c213; done) | exact absurd c213 (by simp)
end Go.Proofs.Ytonpikcbmgmchaa.VC
