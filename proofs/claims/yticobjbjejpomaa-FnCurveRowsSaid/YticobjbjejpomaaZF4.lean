/- Walks. -/
import Derived.Test.YticobjbjejpomaaZF3
set_option linter.unusedVariables false
set_option linter.unusedSimpArgs false
namespace Go.Proofs.Yticobjbjejpomaa.VC
open Go Go.RowKit
/-- What is known of a row of the basis. -/
def BasK (p : Int) (C m : Nat) (b : List Int × List Int) : Prop := (∃ j : Nat, firstI b.1 = j ∧ j < C) ∧ b.1.length = C ∧ elems p b.1 ∧ b.2.length = m ∧ elems p b.2
theorem bas_k {p : Int} {C : Nat} {rows : List (List Int)} (hp : isPr p = true) (h : rect p C rows) (i : Nat) (hi : i ≤ rows.length) : ∀ b ∈ basisM p rows i, BasK p C rows.length b := fun b hb => by
  rcases Nat.eq_zero_or_pos C with h0 | hC
  · subst h0
    rw [basis0 h i hi] at hb
    cases hb
  have hB := bases_ok hp hC h i hi
  have h1 := hB.each b hb
  obtain ⟨j, h2, h3⟩ := hB.fst b hb
  exact ⟨⟨j, h2, h3⟩, h1.l1, h1.e1, h1.l2, h1.e2⟩
theorem basis_len {p : Int} {rows : List (List Int)} : ∀ i : Nat, (basisM p rows i).length ≤ i
  | 0 => Nat.le_refl _
  | i + 1 => by
    have := basis_len (p := p) (rows := rows) i
    rw [basisM_succ]
    unfold addB
    split
    · simp only [List.length_append, List.length_singleton]; omega
    · omega
theorem lessP_snoc {p : Int} {bs : List (List Int × List Int)} {x b : List Int × List Int} {i : Nat} (hz : bs[(i : Int).toNat]? = some b) : lessP p (bs.take (i + 1)) x = red1 p (lessP p (bs.take i) x) b := by
  rw [tk_snoc hz]
  unfold lessP
  rw [List.foldl_append]; rfl
theorem red1_K {p : Int} (hp : 0 < p) {C m : Nat} {x b : List Int × List Int} (hx : x.1.length = C ∧ elems p x.1 ∧ x.2.length = m ∧ elems p x.2) : (red1 p x b).1.length = C ∧ elems p (red1 p x b).1 ∧ (red1 p x b).2.length = m ∧ elems p (red1 p x b).2 := by
  unfold red1
  split
  · exact ⟨(offR_len _ _ _ _).trans hx.1, offR_in hp _ _ _, (offR_len _ _ _ _).trans hx.2.2.1, offR_in hp _ _ _⟩
  · exact hx
theorem lessP_K {p : Int} (hp : 0 < p) {C m : Nat} : ∀ (bs : List (List Int × List Int)) {x : List Int × List Int}, (x.1.length = C ∧ elems p x.1 ∧ x.2.length = m ∧ elems p x.2) → (lessP p bs x).1.length = C ∧ elems p (lessP p bs x).1 ∧ (lessP p bs x).2.length = m ∧ elems p (lessP p bs x).2
  | [], x, h => h
  | b :: bs, x, h => lessP_K hp bs (x := red1 p x b) (red1_K hp h)
theorem firstI_pos {l : List Int} (h : 0 ≤ firstI l) : ∃ i : Nat, firstI l = i ∧ i < l.length ∧ (∀ j, j < i → l.getD j 0 = 0) ∧ l.getD i 0 ≠ 0 := by
  rcases firstI_cases l with ⟨e, _⟩ | h2
  · omega
  · exact h2
variable {W : World} {H : Hp}

set_option maxRecDepth 100000 in
theorem first1_ok (a : Int) : ACalls Try.prog W 183 #[.int .i64 a] H (fun r H' => r = .bool (decide (a ≠ 0)) ∧ Ext H H') := by
  refine ACalls.of (args := [.int .i64 a]) Try.func183 rfl rfl ?_
  have X0 := Ext.refl H
  refine AW.rs ?_
  refine AL.val rfl (.inl rfl) (HV.as rfl) ?_
  refine AL.nx ?_
  refine AW.rs ?_
  refine AL.val rfl (.inl rfl) (HV.mv rfl) ?_
  refine AL.val rfl (.inl rfl) (HV.nei rfl rfl) ?_
  refine AL.val rfl (.inl rfl) (HV.as rfl) ?_
  refine AL.nx ?_
  refine AW.ret ?_
  refine post_one rfl rfl ?_ (.inr rfl)
  exact ⟨rfl, X0⟩

set_option maxRecDepth 100000 in
theorem ixF_ok {v : Value} {l : List Int} {ok : Nat → Prop} (hr : RdK kI W H ok v l) : ACalls Try.prog W 182 #[v, (.func (.func 183) #[] #[])] H (fun r H' => r = .int .i64 (firstI l) ∧ Ext H H') := by
  refine ACalls.of (args := [v, (.func (.func 183) #[] #[])]) Try.func182 rfl rfl ?_
  have X0 := Ext.refl H
  have hm1 := hr.max
  refine AW.rs ?_
  refine AL.val rfl (.inl rfl) (HV.as rfl) ?_
  refine AL.nx ?_
  refine AW.seq ?_
  refine AW.rs ?_
  refine AL.val rfl (.inl rfl) (HV.mv rfl) ?_
  refine AL.val rfl (.inl rfl) (HV.len Try.underlying22 rfl hr.isSl) ?_
  refine AL.val rfl (.inl rfl) (HV.mv rfl) ?_
  refine AL.nx ?_
  refine AW.block ?_
  refine AW.loop (σ := Nat) (fun i => [(0, v), (1, (.func (.func 183) #[] #[])), (7, .int .i64 (l.length : Int)), (8, .int .i64 (i : Int))]) (fun i H' => Ext H H' ∧ i ≤ l.length ∧ (∀ j, j < i → l.getD j 0 = 0) ∧ True) (fun i => l.length - i) 0 ⟨X0, Nat.zero_le _, fun j hj => absurd hj (Nat.not_lt_zero _), trivial⟩ ⟨rfl, rfl, rfl, rfl, trivial⟩ ?_
  rintro i H2 ⟨X3, hi, he, _⟩
  refine AW.rs ?_
  refine AL.val rfl (.inl rfl) (HV.lti rfl rfl) ?_
  refine AL.nx ?_
  refine AW.seq ?_
  refine AW.ifd rfl (fun c4 => ?_) (fun c4 => ?_)
  · -- then
    refine AW.skip ?_
    refine nrm_and ?_
    refine AW.seq ?_
    refine AW.block ?_
    refine AW.rs ?_
    refine AL.val rfl (.inl rfl) (HV.mv rfl) ?_
    refine AL.val rfl (.inl rfl) (HV.as rfl) ?_
    refine AL.nx ?_
    refine AW.rs ?_
    refine AL.val rfl (.inl rfl) (HV.mv rfl) ?_
    refine AL.val rfl (.inl rfl) (HV.mv rfl) ?_
    refine AL.val rfl (.inl rfl) (HV.mv rfl) ?_
    obtain ⟨p5, z6, cs7, hz8, hK9, hC10, hP11⟩ := RdK.ix (q := (i : Int)) hr sl22 (by omega) (by omega)
    obtain rfl : cs7 = [.int .i64 z6] := hK9
    refine AL.val rfl (.inl rfl) (hP11 rfl rfl) ?_
    refine AL.val rfl (.inl rfl) (HV.ld rfl va2 (cells_first (hC10.ext X3) rfl)) ?_
    refine AL.w rfl (.inl rfl) (WV.callv fn183 rfl rfl (first1_ok (W := W) z6)) ?_
    rintro _ H12 ⟨rfl, hx13⟩
    have X14 := Ext.trans X3 hx13
    refine AL.nx ?_
    refine AW.ifd rfl (fun c15 => ?_) (fun c15 => ?_)
    · -- then
      refine AW.rs ?_
      refine AL.val rfl (.inl rfl) (HV.mv rfl) ?_
      refine AL.val rfl (.inl rfl) (HV.as rfl) ?_
      refine AL.nx ?_
      refine AW.ret ?_
      refine ret_blk (ret_and (ret_and (ret_blk (ret_and ?_))))
      refine post_one rfl rfl ?_ (.inr rfl)
      exact ⟨congrArg (Value.int .i64) (firstI_yes (i := i) (by omega) he (by rw [(gd hz8 rfl : l.getD i 0 = z6)]; exact c15)).symm, X14⟩
    · -- else
      refine AW.skip ?_
      refine nrm_blk (nrm_and ?_)
      refine AW.reg ?_
      refine AL.val rfl (.inl rfl) (HV.add rfl rfl (by omega)) ?_
      refine AL.val rfl (.inl rfl) (HV.mv rfl) ?_
      refine AL.nil ?_
      refine nrm_and ?_
      exact ⟨i + 1, ⟨X14, by omega, fun j hj => by
      rcases Nat.lt_or_ge j i with h1 | h1
      · exact he j h1
      · obtain rfl : j = i := by omega
        rw [(gd hz8 rfl : l.getD j 0 = z6)]; omega, trivial⟩, by first | omega | (dsimp only; omega), ⟨rfl, rfl, rfl, rfl, trivial⟩⟩
  · -- else
    refine AW.exit ?_
    refine ex_and (ex_and (ex_blk ?_))
    refine nrm_and ?_
    refine AW.rs ?_
    refine AL.val rfl (.inl rfl) (HV.as rfl) ?_
    refine AL.nx ?_
    refine AW.ret ?_
    refine post_one rfl rfl ?_ (.inr rfl)
    exact ⟨congrArg (Value.int .i64) (firstI_no (fun j hj => he j (by omega))).symm, X3⟩

set_option maxRecDepth 100000 in
theorem first_ok {v : Value} {l : List Int} {ok : Nat → Prop} (hr : RdK kI W H ok v l) : ACalls Try.prog W 139 #[v] H (fun r H' => r = .int .i64 (firstI l) ∧ Ext H H') := by
  refine ACalls.of (args := [v]) Try.func139 rfl rfl ?_
  have X0 := Ext.refl H
  have hm1 := hr.max
  refine AW.rs ?_
  refine AL.val rfl (.inl rfl) (HV.as rfl) ?_
  refine AL.nx ?_
  refine AW.rs ?_
  refine AL.val rfl (.inl rfl) (HV.mv rfl) ?_
  refine AL.w rfl (.inl rfl) (WV.call fn182 rfl (ixF_ok hr)) ?_
  rintro _ H2 ⟨rfl, hx3⟩
  have X4 := Ext.trans X0 hx3
  refine AL.val rfl (.inl rfl) (HV.as rfl) ?_
  refine AL.nx ?_
  refine AW.ret ?_
  refine post_one rfl rfl ?_ (.inr rfl)
  exact ⟨rfl, X4⟩

set_option maxRecDepth 100000 in
theorem less_ok {ba bm nv : Nat} {vb v u1 u2 : Value} {bs : List (List Int × List Int)} {x1 x2 : List Int} {okb ok1 ok2 : Nat → Prop} {p k : Int} {C m : Nat} (hba : At W H ba ⟨164, [vb], 1⟩) (hbm : At W H bm ⟨29, [.int .i64 p, .int .i64 k, v], 3⟩) (hv : IsSl v nv) (hbs : RdK (kP (kR kI) (kR kI)) W H okb vb bs) (h1 : OwnK kI 2 W H ok1 u1 x1) (h2 : OwnK kI 2 W H ok2 u2 x2) (hd1 : ∀ x, x = ba ∨ x = bm ∨ okb x ∨ some x = u2.ownBlock → some x = u1.ownBlock → False) (hd2 : ∀ x, x = ba ∨ x = bm ∨ okb x ∨ some x = u1.ownBlock → some x = u2.ownBlock → False) (hp : 2 ≤ p ∧ p ≤ 31) (hbk : ∀ b ∈ bs, BasK p C m b) (hx : x1.length = C ∧ elems p x1 ∧ x2.length = m ∧ elems p x2) (hC : C ≤ 40) (hm : m ≤ 40) : ACalls Try.prog W 138 #[.agg #[u1, u2], .pointer (some ⟨ba, 0, none⟩), .pointer (some ⟨bm, 0, none⟩)] H (fun r H' => r = .agg #[u1, u2] ∧ But (fun x => some x = u1.ownBlock ∨ some x = u2.ownBlock) H H' ∧ OwnK kI 2 W H' ok1 u1 (lessP p bs (x1, x2)).1 ∧ OwnK kI 2 W H' ok2 u2 (lessP p bs (x1, x2)).2) := by
  refine ACalls.of (args := [.agg #[u1, u2], .pointer (some ⟨ba, 0, none⟩), .pointer (some ⟨bm, 0, none⟩)]) Try.func138 rfl rfl ?_
  have X0 := Ext.refl H
  have n1 := h1.narrow (ok' := fun b => some b = u1.ownBlock) kI_flat (fun b q => q)
  have n2 := h2.narrow (ok' := fun b => some b = u2.ownBlock) kI_flat (fun b q => q)
  have hbs' := hbs.okk (ok' := fun b => okb b ∧ b < H.bd) (fun b hb hlt => ⟨hb, hlt⟩)
  have hmb := hbs.max
  have CH0 := But.refl (fun x => some x = u1.ownBlock ∨ some x = u2.ownBlock) H
  refine AW.rs ?_
  have a6 := n1.ltb
  have a7 := n2.ltb
  refine AL.w rfl (.inl rfl) (WV.bx rfl rfl) ?_
  rintro _ H2 ⟨b1, rfl, hx3, hn4, hb5⟩
  have o8 := Nat.le_trans X0.bd hn4
  have a9 : ∀ b', some b' = u1.ownBlock → b' = b1 → False := fun b' h1 h2 => by have x1 := a6 b' h1; have x2 := hn4; omega
  have a10 : ∀ b', some b' = u2.ownBlock → b' = b1 → False := fun b' h1 h2 => by have x1 := a7 b' h1; have x2 := hn4; omega
  have ne11 : ba ≠ b1 := by have := hba.lt; omega
  have ne12 : bm ≠ b1 := by have := hbm.lt; omega
  have ch13 := But.trans CH0 (Ext.but hx3 _)
  have X14 := Ext.trans X0 hx3
  have ho15 := n1.ext hx3
  have ho16 := n2.ext hx3
  have ho17 := hbs'.ext hx3
  have hb18 := hba.ext hx3
  have hb19 := hbm.ext hx3
  have X20 := Ext.refl H2
  have a26 := ho15.ltb
  have a27 := ho16.ltb
  refine AL.w rfl (.inl rfl) (WV.al ze166 rfl) ?_
  rintro _ H22 ⟨b21, rfl, hx23, hn24, hb25⟩
  have o28 := Nat.le_trans X14.bd hn24
  have o29 := Nat.le_trans X20.bd hn24
  have a30 : ∀ b', some b' = u1.ownBlock → b' = b21 → False := fun b' h1 h2 => by have x1 := a26 b' h1; have x2 := hn24; omega
  have a31 : ∀ b', some b' = u2.ownBlock → b' = b21 → False := fun b' h1 h2 => by have x1 := a27 b' h1; have x2 := hn24; omega
  have ne32 : ba ≠ b21 := by have := hb18.lt; omega
  have ne33 : bm ≠ b21 := by have := hb19.lt; omega
  have ne34 : b1 ≠ b21 := by have := hb5.lt; omega
  have ch35 := But.trans ch13 (Ext.but hx23 _)
  have X36 := Ext.trans X14 hx23
  have X37 := Ext.trans X20 hx23
  have ho38 := ho15.ext hx23
  have ho39 := ho16.ext hx23
  have ho40 := ho17.ext hx23
  have hb41 := hb18.ext hx23
  have hb42 := hb19.ext hx23
  have hb43 := hb5.ext hx23
  have X44 := Ext.refl H22
  refine AL.nx ?_
  refine AW.seq ?_
  refine AW.rs ?_
  refine AL.val rfl (.inl rfl) (HV.ld rfl va164 (at_cell hb41 rfl)) ?_
  refine AL.val rfl (.inl rfl) (HV.len Try.underlying164 rfl ho40.isSl) ?_
  refine AL.val rfl (.inl rfl) (HV.mv rfl) ?_
  refine AL.nx ?_
  refine AW.block ?_
  refine AW.loop (σ := Nat × List Int × List Int) (fun ⟨i, y⟩ => [(2, .pointer (some ⟨bm, 0, none⟩)), (3, .pointer (some ⟨b1, 0, none⟩)), (4, .pointer (some ⟨b21, 0, none⟩)), (9, vb), (10, .int .i64 (bs.length : Int)), (11, .int .i64 (i : Int))]) (fun ⟨i, y⟩ H' => At W H' ba ⟨164, [vb], 1⟩ ∧ At W H' bm ⟨29, [.int .i64 p, .int .i64 k, v], 3⟩ ∧ At W H' b1 ⟨166, [u1, u2], 2⟩ ∧ At W H' b21 ⟨166, [(.slice none 0 0), (.slice none 0 0)], 2⟩ ∧ But (fun x => some x = u1.ownBlock ∨ some x = u2.ownBlock) H H' ∧ RdK (kP (kR kI) (kR kI)) W H' (fun b => okb b ∧ b < H.bd) vb bs ∧ H.bd ≤ H'.bd ∧ i ≤ bs.length ∧ y = lessP p (bs.take i) (x1, x2) ∧ OwnK kI 2 W H' (fun b => some b = u1.ownBlock) u1 y.1 ∧ OwnK kI 2 W H' (fun b => some b = u2.ownBlock) u2 y.2 ∧ True) (fun ⟨i, y⟩ => bs.length - i) (0, (x1, x2)) ⟨hb41, hb42, hb43, hb25, ch35, ho40, X36.bd, Nat.zero_le _, rfl, ho38, ho39, trivial⟩ ⟨rfl, rfl, rfl, rfl, rfl, rfl, trivial⟩ ?_
  rintro ⟨i, y⟩ H45 ⟨hb46, hb47, hb48, hb49, ch50, ho51, hHb, hi, hyy, ho1, ho2, _⟩
  have hy := lessP_K (p := p) (by omega) (C := C) (m := m) (bs.take i) (x := (x1, x2)) hx
  rw [← hyy] at hy
  refine AW.rs ?_
  refine AL.val rfl (.inl rfl) (HV.lti rfl rfl) ?_
  refine AL.nx ?_
  refine AW.seq ?_
  refine AW.ifd rfl (fun c52 => ?_) (fun c52 => ?_)
  · -- then
    refine AW.skip ?_
    refine nrm_and ?_
    refine AW.seq ?_
    refine AW.block ?_
    refine AW.rs ?_
    have X60 := Ext.refl H45
    obtain ⟨p53, z54, cs55, hz56, hK57, hC58, hP59⟩ := RdK.ix (q := (i : Int)) ho51 sl164 (by omega) (by omega)
    obtain ⟨cs61, cs62, rfl, hK63, hK64⟩ := hK57
    obtain ⟨v65, rfl, hr66⟩ := hK63
    have hm67 := hr66.max
    obtain ⟨v68, rfl, hr69⟩ := hK64
    have hm70 := hr69.max
    refine AL.val rfl (.inl rfl) (hP59 rfl rfl) ?_
    refine AL.val rfl (.inl rfl) (HV.lda (cs := [v65, v68]) rfl va166 hC58) ?_
    have a76 := ho1.ltb
    have a77 := ho2.ltb
    refine AL.w rfl (.inl rfl) (WV.al ze166 rfl) ?_
    rintro _ H72 ⟨b71, rfl, hx73, hn74, hb75⟩
    have o78 := Nat.le_trans X60.bd hn74
    have o79 := Nat.le_trans hHb hn74
    have a80 : ∀ b', some b' = u1.ownBlock → b' = b71 → False := fun b' h1 h2 => by have x1 := a76 b' h1; have x2 := hn74; omega
    have a81 : ∀ b', some b' = u2.ownBlock → b' = b71 → False := fun b' h1 h2 => by have x1 := a77 b' h1; have x2 := hn74; omega
    have ne82 : ba ≠ b71 := by have := hb46.lt; omega
    have ne83 : bm ≠ b71 := by have := hb47.lt; omega
    have ne84 : b1 ≠ b71 := by have := hb48.lt; omega
    have ne85 : b21 ≠ b71 := by have := hb49.lt; omega
    have ch86 := But.trans ch50 (Ext.but hx73 _)
    have q87 := Nat.le_trans hHb hx73.bd
    have X88 := Ext.trans X60 hx73
    have ho89 := ho1.ext hx73
    have ho90 := ho2.ext hx73
    have ho91 := ho51.ext hx73
    have hb92 := hb46.ext hx73
    have hb93 := hb47.ext hx73
    have hb94 := hb48.ext hx73
    have hb95 := hb49.ext hx73
    have X96 := Ext.refl H72
    refine AL.w0 (.inl rfl) (WV.st rfl rfl va166 rfl hb75 (Nat.le_of_ble_eq_true rfl) (one_cons (sl_one1 (hr66.ext X88).isSl) (one_cons (sl_one1 (hr69.ext X88).isSl) one_nil))) ?_
    rintro _ H97 ⟨hx98, hb99⟩
    have ch100 := But.thru ch86 hx98 (fun z_ hz_ => by rw [hz_]; exact o79)
    have q101 := Nat.le_trans q87 hx98.bd
    have X102 := Ext.thru X88 hx98 (fun z_ hz_ => by rw [hz_]; exact o78)
    have q104 := Nat.le_trans X96.bd hx98.bd
    have ho105 := ho89.but hx98 (fun b hb _ e => a80 b hb e) (fun z_ hz_ => by rw [hz_]; exact hb75.w)
    have ho106 := ho90.but hx98 (fun b hb _ e => a81 b hb e) (fun z_ hz_ => by rw [hz_]; exact hb75.w)
    have ho107 := ho91.but hx98 (fun b h1 _ e => by have h2 : b < H.bd := h1.2; have h3 : b = b71 := e; omega) (fun z_ hz_ => by rw [hz_]; exact hb75.w)
    have hb108 := hb92.but hx98 ne82
    have hb109 := hb93.but hx98 ne83
    have hb110 := hb94.but hx98 ne84
    have hb111 := hb95.but hx98 ne85
    have hb112 : At W H97 b71 ⟨166, [v65, v68], 2⟩ := hb99
    refine AL.nx ?_
    refine AW.rs ?_
    have hzk := hbk _ (List.mem_of_getElem? hz56)
    obtain ⟨⟨jf, hj1, hj2⟩, hzk2⟩ := hzk
    have hzk : BasK p C m z54 := ⟨⟨jf, hj1, hj2⟩, hzk2⟩
    refine AL.val rfl (.inl rfl) (HV.fa fl166_0 rfl) ?_
    refine AL.val rfl (.inl rfl) (HV.ld rfl va22 (at_cell hb112 rfl)) ?_
    refine AL.w rfl (.inl rfl) (WV.call fn139 rfl (first_ok (hr66.ext X102))) ?_
    rintro _ H113 ⟨rfl, hx114⟩
    have ch115 := But.trans ch100 (Ext.but hx114 _)
    have q116 := Nat.le_trans q101 hx114.bd
    have q117 := Nat.le_trans q104 hx114.bd
    have X118 := Ext.trans X102 hx114
    have ho119 := ho105.ext hx114
    have ho120 := ho106.ext hx114
    have ho121 := ho107.ext hx114
    have hb122 := hb108.ext hx114
    have hb123 := hb109.ext hx114
    have hb124 := hb110.ext hx114
    have hb125 := hb111.ext hx114
    have hb126 := hb112.ext hx114
    refine AL.val rfl (.inl rfl) (HV.as rfl) ?_
    refine AL.nx ?_
    refine AW.rs ?_
    refine AL.val rfl (.inl rfl) (HV.fa fl166_0 rfl) ?_
    refine AL.val rfl (.inl rfl) (HV.ld rfl va22 (at_cell hb124 rfl)) ?_
    refine AL.val rfl (.inl rfl) (HV.mv rfl) ?_
    obtain ⟨g127, z128, cs129, hz130, hK131, hC132, hg133, hP134⟩ := OwnK.ix (q := (firstI z54.1)) ho119 sl22 (by rw [hj1]; omega) (by rw [hj1, hy.1]; omega)
    have X135 := Ext.refl H113
    obtain rfl : cs129 = [.int .i64 z128] := hK131
    refine AL.val rfl (.inl rfl) (hP134 rfl rfl) ?_
    have hf1 : y.1.getD (firstI z54.1).toNat 0 = z128 := by rw [List.getD_eq_getElem?_getD, hz130]; rfl
    have hb22 := elem_at hy.2.1 hz130
    refine AL.val rfl (.inl rfl) (HV.ld rfl va2 (cells_first hC132 rfl)) ?_
    refine AL.val rfl (.inl rfl) (HV.nei rfl rfl) ?_
    refine AL.nx ?_
    refine AW.ifd rfl (fun c136 => ?_) (fun c136 => ?_)
    · -- then
      refine AW.rs ?_
      refine AL.val rfl (.inl rfl) (HV.fa fl166_0 rfl) ?_
      refine AL.val rfl (.inl rfl) (HV.ld rfl va22 (at_cell hb124 rfl)) ?_
      refine AL.val rfl (.inl rfl) (HV.mv rfl) ?_
      obtain ⟨g137, z138, cs139, hz140, hK141, hC142, hg143, hP144⟩ := OwnK.ix (q := (firstI z54.1)) ho119 sl22 (by rw [hj1]; omega) (by rw [hj1, hy.1]; omega)
      obtain rfl : cs139 = [.int .i64 z138] := hK141
      refine AL.val rfl (.inl rfl) (hP144 rfl rfl) ?_
      have hf2 : z128 = z138 := same_at hz140 hz130
      refine AL.val rfl (.inl rfl) (HV.ld rfl va2 (cells_first hC142 rfl)) ?_
      refine AL.val rfl (.inl rfl) (HV.as rfl) ?_
      refine AL.nx ?_
      refine AW.rs ?_
      refine AL.val rfl (.inl rfl) (HV.fa fl29_0 rfl) ?_
      refine AL.val rfl (.inl rfl) (HV.ld rfl va2 (at_cell hb123 rfl)) ?_
      refine AL.val rfl (.inl rfl) (HV.fa fl166_0 rfl) ?_
      refine AL.val rfl (.inl rfl) (HV.ld rfl va22 (at_cell hb124 rfl)) ?_
      refine AL.val rfl (.inl rfl) (HV.fa fl166_0 rfl) ?_
      refine AL.val rfl (.inl rfl) (HV.ld rfl va22 (at_cell hb126 rfl)) ?_
      refine AL.val rfl (.inl rfl) (HV.mv rfl) ?_
      refine AL.w rfl (.inl rfl) (WV.call fn140 rfl (takeOff_ok ho119 (hr66.ext X118) (fun b q e => hd1 b (.inr (.inr (.inl q.1))) e) hp hy.2.1 hzk.2.2.1 (by omega) (hzk.2.1.trans hy.1.symm))) ?_
      rintro _ H145 ⟨hx146, ho147⟩
      have hr148 := (hr66.ext X118).but hx146 (fun b q _ e => hd1 b (.inr (.inr (.inl q.1))) e) (fun b hb => (ho119.blk b hb).2.2)
      have hr149 := (hr69.ext X118).but hx146 (fun b q _ e => hd1 b (.inr (.inr (.inl q.1))) e) (fun b hb => (ho119.blk b hb).2.2)
      have ch150 := But.trans ch115 (But.mono hx146 (fun x e => .inl e))
      have q151 := Nat.le_trans q116 hx146.bd
      have q152 := Nat.le_trans q117 hx146.bd
      have q154 := Nat.le_trans X118.bd hx146.bd
      have q156 := Nat.le_trans X135.bd hx146.bd
      have ho157 := ho120.but hx146 (fun b h1 _ e => hd1 b (.inr (.inr (.inr h1))) e) (fun b hb => (ho119.blk b hb).2.2)
      have ho158 := ho121.but hx146 (fun b h1 _ e => by first | exact hd1 b (.inr (.inr (.inl h1.1))) e | exact hd2 b (.inr (.inr (.inl h1.1))) e) (fun b hb => (ho119.blk b hb).2.2)
      have hb159 := hb122.but hx146 (fun e => (fun x q e => hd1 x (.inl e) q) _ e rfl)
      have hb160 := hb123.but hx146 (fun e => (fun x q e => hd1 x (.inr (.inl e)) q) _ e rfl)
      have hb161 := hb124.but hx146 (fun e => a9 _ e rfl)
      have hb162 := hb125.but hx146 (fun e => a30 _ e rfl)
      have hb163 := hb126.but hx146 (fun e => a80 _ e rfl)
      have X164 := Ext.refl H145
      refine AL.nx ?_
      refine AW.reg ?_
      refine AL.val rfl (.inl rfl) (HV.fa fl29_0 rfl) ?_
      refine AL.val rfl (.inl rfl) (HV.ld rfl va2 (at_cell hb160 rfl)) ?_
      refine AL.val rfl (.inl rfl) (HV.fa fl166_1 rfl) ?_
      refine AL.val rfl (.inl rfl) (HV.ld rfl va22 (at_cell_add (j := 1) hb161 rfl)) ?_
      refine AL.val rfl (.inl rfl) (HV.fa fl166_1 rfl) ?_
      refine AL.val rfl (.inl rfl) (HV.ld rfl va22 (at_cell_add (j := 1) hb163 rfl)) ?_
      refine AL.val rfl (.inl rfl) (HV.mv rfl) ?_
      refine AL.w rfl (.inl rfl) (WV.call fn140 rfl (takeOff_ok ho157 hr149 (fun b q e => hd2 b (.inr (.inr (.inl q.1))) e) hp hy.2.2.2 hzk.2.2.2.2 (by omega) (hzk.2.2.2.1.trans hy.2.2.1.symm))) ?_
      rintro _ H165 ⟨hx166, ho167⟩
      have hr168 := hr148.but hx166 (fun b q _ e => hd2 b (.inr (.inr (.inl q.1))) e) (fun b hb => (ho157.blk b hb).2.2)
      have hr169 := hr149.but hx166 (fun b q _ e => hd2 b (.inr (.inr (.inl q.1))) e) (fun b hb => (ho157.blk b hb).2.2)
      have ch170 := But.trans ch150 (But.mono hx166 (fun x e => .inr e))
      have q171 := Nat.le_trans q151 hx166.bd
      have q172 := Nat.le_trans q152 hx166.bd
      have q173 := Nat.le_trans q154 hx166.bd
      have q174 := Nat.le_trans q156 hx166.bd
      have q176 := Nat.le_trans X164.bd hx166.bd
      have ho177 := ho147.but hx166 (fun b h1 _ e => hd1 b (.inr (.inr (.inr e))) h1) (fun b hb => (ho157.blk b hb).2.2)
      have ho178 := ho158.but hx166 (fun b h1 _ e => by first | exact hd1 b (.inr (.inr (.inl h1.1))) e | exact hd2 b (.inr (.inr (.inl h1.1))) e) (fun b hb => (ho157.blk b hb).2.2)
      have hb179 := hb159.but hx166 (fun e => (fun x q e => hd2 x (.inl e) q) _ e rfl)
      have hb180 := hb160.but hx166 (fun e => (fun x q e => hd2 x (.inr (.inl e)) q) _ e rfl)
      have hb181 := hb161.but hx166 (fun e => a10 _ e rfl)
      have hb182 := hb162.but hx166 (fun e => a31 _ e rfl)
      have hb183 := hb163.but hx166 (fun e => a81 _ e rfl)
      have X184 := Ext.refl H165
      refine AL.nil ?_
      refine nrm_blk (nrm_and ?_)
      refine AW.reg ?_
      refine AL.val rfl (.inl rfl) (HV.add rfl rfl (by omega)) ?_
      refine AL.val rfl (.inl rfl) (HV.mv rfl) ?_
      refine AL.nil ?_
      refine nrm_and ?_
      exact ⟨(i + 1, ((offR p z138 y.1 z54.1), (offR p z138 y.2 z54.2))), ⟨hb179, hb180, hb181, hb182, ch170, ho178, q171, by omega, by rw [lessP_snoc hz56, ← hyy]; unfold red1; rw [if_pos (by rw [hf1]; omega), hf1, hf2], ho177, ho167, trivial⟩, by first | omega | (dsimp only; omega), ⟨rfl, rfl, rfl, rfl, rfl, rfl, trivial⟩⟩
    · -- else
      refine AW.skip ?_
      refine nrm_blk (nrm_and ?_)
      refine AW.reg ?_
      refine AL.val rfl (.inl rfl) (HV.add rfl rfl (by omega)) ?_
      refine AL.val rfl (.inl rfl) (HV.mv rfl) ?_
      refine AL.nil ?_
      refine nrm_and ?_
      exact ⟨(i + 1, (y.1, y.2)), ⟨hb122, hb123, hb124, hb125, ch115, ho121, q116, by omega, by rw [lessP_snoc hz56, ← hyy]; unfold red1; rw [if_neg (by rw [hf1]; omega)], ho119, ho120, trivial⟩, by first | omega | (dsimp only; omega), ⟨rfl, rfl, rfl, rfl, rfl, rfl, trivial⟩⟩
  · -- else
    refine AW.exit ?_
    refine ex_and (ex_and (ex_blk ?_))
    refine nrm_and ?_
    refine AW.rs ?_
    refine AL.val rfl (.inl rfl) (HV.lda (cs := [u1, u2]) rfl va166 (at_cells hb48 rfl)) ?_
    refine AL.w0 (.inl rfl) (WV.st rfl rfl va166 rfl hb49 (Nat.le_of_ble_eq_true rfl) (one_cons (sl_one1 ho1.rd.isSl) (one_cons (sl_one1 ho2.rd.isSl) one_nil))) ?_
    rintro _ H185 ⟨hx186, hb187⟩
    have ch188 := But.thru ch50 hx186 (fun z_ hz_ => by rw [hz_]; exact o28)
    have q189 := Nat.le_trans hHb hx186.bd
    have ho190 := ho1.but hx186 (fun b hb _ e => a30 b hb e) (fun z_ hz_ => by rw [hz_]; exact hb49.w)
    have ho191 := ho2.but hx186 (fun b hb _ e => a31 b hb e) (fun z_ hz_ => by rw [hz_]; exact hb49.w)
    have ho192 := ho51.but hx186 (fun b h1 _ e => by have h2 : b < H.bd := h1.2; have h3 : b = b21 := e; omega) (fun z_ hz_ => by rw [hz_]; exact hb49.w)
    have hb193 := hb46.but hx186 ne32
    have hb194 := hb47.but hx186 ne33
    have hb195 := hb48.but hx186 ne34
    have hb196 : At W H185 b21 ⟨166, [u1, u2], 2⟩ := hb187
    refine AL.nx ?_
    refine AW.ret ?_
    refine post_cell rfl rfl va166 hb196 ?_ (.inr rfl)
    have ey : lessP p bs (x1, x2) = y := (by rw [hyy, List.take_of_length_le (by omega)]); exact ⟨rfl, ch188, by rw [ey]; exact ho190.okk (fun b hb _ => (h1.blk b hb).1), by rw [ey]; exact ho191.okk (fun b hb _ => (h2.blk b hb).1)⟩
end Go.Proofs.Yticobjbjejpomaa.VC

