/- Walks. -/
import Derived.Test.YtbjcgcililpfdaaVF2
import Derived.Test.YtbjcgcililpfdaaVTR
set_option linter.unusedVariables false
set_option linter.unusedSimpArgs false
namespace Go.Proofs.Ytbjcgcililpfdaa.VC
open Go Go.RowKit
variable {W : World} {H : Hp}

set_option maxRecDepth 100000 in
theorem szGateS_of {d : Nat} (ih : ∀ {W : World} {H : Hp} {ok : Nat → Prop} {z : GT d} {a l : Int} {v : Value} (hK : (kG d).rd W H ok z [.int .i64 a, .int .i64 l, v]) (q : Int) (hq : -1 ≤ q ∧ q ≤ 1048576), ACalls Try.prog W 12 #[.agg #[.int .i64 a, .int .i64 l, v], .int .i64 q] H (fun r H' => (∃ q' : Int, r = .int .i64 q' ∧ -1 ≤ q' ∧ q' ≤ 1048576 ∧ (0 ≤ q' → q' + (szG d z : Int) ≤ q + 1)) ∧ Ext H H')) {v : Value} {ks : List (GT d)} {ok : Nat → Prop} (hr : RdK (kG d) W H ok v ks) (q : Int) (hq : -1 ≤ q ∧ q ≤ 1048576) : ACalls Try.prog W 48 #[v, .int .i64 q] H (fun r H' => (∃ q' : Int, r = .int .i64 q' ∧ -1 ≤ q' ∧ q' ≤ 1048576 ∧ (0 ≤ q' → q' + (szL d ks : Int) ≤ q)) ∧ Ext H H') := by
  refine ACalls.of (args := [v, .int .i64 q]) Try.func48 rfl rfl ?_
  have X0 := Ext.refl H
  have hm1 := hr.max
  have sl22 : SlT Try.prog 22 24 (.agg #[(.int .i64 0), (.int .i64 0), (.slice none 0 0)]) (kG d).sz 40 := by rw [kG_sz]; exact sl22
  refine AW.rs ?_
  refine AL.val rfl (.inl rfl) (HV.as rfl) ?_
  refine AL.nx ?_
  refine AW.rs ?_
  refine AL.val rfl (.inl rfl) (HV.mv rfl) ?_
  refine AL.val rfl (.inl rfl) (HV.mv rfl) ?_
  refine AL.val rfl (.inl rfl) (HV.len Try.underlying22 rfl hr.isSl) ?_
  refine AL.val rfl (.inl rfl) (HV.sub rfl rfl (by omega)) ?_
  refine AL.val rfl (.inl rfl) (HV.as rfl) ?_
  refine AL.nx ?_
  refine AW.seq ?_
  refine AW.rs ?_
  refine AL.val rfl (.inl rfl) (HV.mv rfl) ?_
  refine AL.val rfl (.inl rfl) (HV.lti rfl rfl) ?_
  refine AL.nx ?_
  refine AW.ifd rfl (fun c2 => ?_) (fun c2 => ?_)
  · -- then
    refine AW.rs ?_
    refine AL.val rfl (.inl rfl) (HV.as rfl) ?_
    refine AL.nx ?_
    refine AW.ret ?_
    refine ret_and ?_
    refine post_one rfl rfl ?_ (.inr rfl)
    exact ⟨⟨_, rfl, by omega, by omega, fun h => absurd h (by decide)⟩, X0⟩
  · -- else
    refine AW.skip ?_
    refine nrm_and ?_
    refine AW.seq ?_
    refine AW.rs ?_
    refine AL.val rfl (.inl rfl) (HV.as rfl) ?_
    refine AL.nx ?_
    refine AW.block ?_
    refine AW.loop (σ := Nat × Int) (fun ⟨i, p⟩ => [(0, v), (1, .int .i64 p), (5, .int .i64 (i : Int))]) (fun ⟨i, p⟩ H' => Ext H H' ∧ i ≤ ks.length ∧ 0 ≤ p ∧ p ≤ 1048576 ∧ p + (szL d (ks.take i) : Int) + ks.length ≤ q + i ∧ True) (fun ⟨i, p⟩ => ks.length - i) (0, q - (ks.length : Int)) ⟨X0, Nat.zero_le _, by omega, by omega, by show _ + ((0 : Nat) : Int) + _ ≤ _; omega, trivial⟩ ⟨rfl, rfl, rfl, trivial⟩ ?_
    rintro ⟨i, p⟩ H3 ⟨X4, hi, hp, hp2, hs, _⟩
    refine AW.seq ?_
    refine AW.rs ?_
    refine AL.val rfl (.inl rfl) (HV.mv rfl) ?_
    refine AL.val rfl (.inl rfl) (HV.mv rfl) ?_
    refine AL.val rfl (.inl rfl) (HV.len Try.underlying22 rfl hr.isSl) ?_
    refine AL.val rfl (.inl rfl) (HV.lti rfl rfl) ?_
    refine AL.nx ?_
    refine AW.ifd rfl (fun c5 => ?_) (fun c5 => ?_)
    · -- then
      refine AW.skip ?_
      refine nrm_and ?_
      refine AW.seq ?_
      refine AW.block ?_
      refine AW.rs ?_
      refine AL.val rfl (.inl rfl) (HV.mv rfl) ?_
      refine AL.val rfl (.inl rfl) (HV.mv rfl) ?_
      obtain ⟨p6, z7, cs8, hz9, hK10, hC11, hP12⟩ := RdK.ix (q := (i : Int)) hr sl22 (by omega) (by omega)
      obtain ⟨a13, l14, v15, n16, rfl, isl17⟩ := kG_cells hK10
      refine AL.val rfl (.inl rfl) (hP12 rfl rfl) ?_
      refine AL.val rfl (.inl rfl) (HV.lda (cs := [.int .i64 a13, .int .i64 l14, v15]) rfl va24 (hC11.ext X4)) ?_
      refine AL.val rfl (.inl rfl) (HV.mv rfl) ?_
      refine AL.w rfl (.inl rfl) (WV.call fn12 rfl (ih (Kd.ext (kG d) hK10 X4) p (by omega))) ?_
      rintro _ H18 ⟨⟨q20, rfl, ha21, hb22, he23⟩, hx19⟩
      have X24 := Ext.trans X4 hx19
      refine AL.val rfl (.inl rfl) (HV.as rfl) ?_
      refine AL.nx ?_
      refine AW.rs ?_
      refine AL.val rfl (.inl rfl) (HV.mv rfl) ?_
      refine AL.val rfl (.inl rfl) (HV.lti rfl rfl) ?_
      refine AL.nx ?_
      refine AW.ifd rfl (fun c25 => ?_) (fun c25 => ?_)
      · -- then
        refine AW.rs ?_
        refine AL.val rfl (.inl rfl) (HV.as rfl) ?_
        refine AL.nx ?_
        refine AW.ret ?_
        refine ret_blk (ret_and (ret_and (ret_blk (ret_and ?_))))
        refine post_one rfl rfl ?_ (.inr rfl)
        exact ⟨⟨_, rfl, by omega, by omega, fun h => absurd h (by decide)⟩, X24⟩
      · -- else
        refine AW.skip ?_
        refine nrm_blk (nrm_and ?_)
        refine AW.reg ?_
        refine AL.val rfl (.inl rfl) (HV.mv rfl) ?_
        refine AL.val rfl (.inl rfl) (HV.add rfl rfl (by omega)) ?_
        refine AL.val rfl (.inl rfl) (HV.as rfl) ?_
        refine AL.nil ?_
        refine nrm_and ?_
        exact ⟨(i + 1, q20), ⟨X24, by omega, by omega, by omega, by rw [szL_snoc (getq hz9 rfl)]; have := he23 (by omega); omega, trivial⟩, by first | omega | (dsimp only; omega), ⟨rfl, rfl, rfl, trivial⟩⟩
    · -- else
      refine AW.exit ?_
      refine ex_and (ex_and (ex_blk ?_))
      refine nrm_and ?_
      refine AW.rs ?_
      refine AL.val rfl (.inl rfl) (HV.mv rfl) ?_
      refine AL.val rfl (.inl rfl) (HV.as rfl) ?_
      refine AL.nx ?_
      refine AW.ret ?_
      refine post_one rfl rfl ?_ (.inr rfl)
      exact ⟨⟨_, rfl, by omega, by omega, fun h => by rw [List.take_of_length_le (by omega)] at hs; omega⟩, X4⟩

set_option maxRecDepth 100000 in
theorem szGate_of {d : Nat} (ih : ∀ {W : World} {H : Hp} {ok : Nat → Prop} {z : GT d} {a l : Int} {v : Value} (hK : (kG d).rd W H ok z [.int .i64 a, .int .i64 l, v]) (q : Int) (hq : -1 ≤ q ∧ q ≤ 1048576), ACalls Try.prog W 12 #[.agg #[.int .i64 a, .int .i64 l, v], .int .i64 q] H (fun r H' => (∃ q' : Int, r = .int .i64 q' ∧ -1 ≤ q' ∧ q' ≤ 1048576 ∧ (0 ≤ q' → q' + (szG d z : Int) ≤ q + 1)) ∧ Ext H H')) {h l : Int} {v : Value} {ks : List (GT d)} {ok : Nat → Prop} (hr : RdK (kG d) W H ok v ks) (q : Int) (hq : -1 ≤ q ∧ q ≤ 1048576) : ACalls Try.prog W 12 #[.agg #[.int .i64 h, .int .i64 l, v], .int .i64 q] H (fun r H' => (∃ q' : Int, r = .int .i64 q' ∧ -1 ≤ q' ∧ q' ≤ 1048576 ∧ (0 ≤ q' → q' + (szG (d + 1) (h, l, ks) : Int) ≤ q + 1)) ∧ Ext H H') := by
  refine ACalls.of (args := [.agg #[.int .i64 h, .int .i64 l, v], .int .i64 q]) Try.func12 rfl rfl ?_
  have X0 := Ext.refl H
  have hm1 := hr.max
  refine AW.rs ?_
  refine AL.w rfl (.inl rfl) (WV.bx rfl rfl) ?_
  rintro _ H3 ⟨b2, rfl, hx4, hn5, hb6⟩
  have o7 := Nat.le_trans X0.bd hn5
  have X8 := Ext.trans X0 hx4
  have X9 := Ext.refl H3
  refine AL.val rfl (.inl rfl) (HV.as rfl) ?_
  refine AL.nx ?_
  refine AW.rs ?_
  refine AL.val rfl (.inl rfl) (HV.fa fl24_2 rfl) ?_
  refine AL.val rfl (.inl rfl) (HV.ld rfl va22 (at_cell_add hb6 rfl)) ?_
  refine AL.val rfl (.inl rfl) (HV.mv rfl) ?_
  refine AL.w rfl (.inl rfl) (WV.call fn48 rfl (szGateS_of ih (hr.ext X8) q (by omega))) ?_
  rintro _ H10 ⟨⟨q12, rfl, ha13, hb14, he15⟩, hx11⟩
  have X16 := Ext.trans X8 hx11
  have X17 := Ext.trans X9 hx11
  have hb18 := hb6.ext hx11
  refine AL.val rfl (.inl rfl) (HV.as rfl) ?_
  refine AL.nx ?_
  refine AW.seq ?_
  refine AW.rs ?_
  refine AL.val rfl (.inl rfl) (HV.mv rfl) ?_
  refine AL.val rfl (.inl rfl) (HV.lti rfl rfl) ?_
  refine AL.nx ?_
  refine AW.ifd rfl (fun c19 => ?_) (fun c19 => ?_)
  · -- then
    refine AW.rs ?_
    refine AL.val rfl (.inl rfl) (HV.as rfl) ?_
    refine AL.nx ?_
    refine AW.ret ?_
    refine ret_and ?_
    refine post_one rfl rfl ?_ (.inr rfl)
    exact ⟨⟨_, rfl, by omega, by omega, fun h => absurd h (by decide)⟩, X16⟩
  · -- else
    refine AW.skip ?_
    refine nrm_and ?_
    refine AW.rs ?_
    refine AL.val rfl (.inl rfl) (HV.mv rfl) ?_
    refine AL.val rfl (.inl rfl) (HV.as rfl) ?_
    refine AL.nx ?_
    refine AW.ret ?_
    refine post_one rfl rfl ?_ (.inr rfl)
    exact ⟨⟨_, rfl, by omega, by omega, fun h => by have := he15 (by omega); rw [szG_succ]; omega⟩, X16⟩

theorem szGate_all (d : Nat) : ∀ {W : World} {H : Hp} {ok : Nat → Prop} {z : GT d} {a l : Int} {v : Value} (hK : (kG d).rd W H ok z [.int .i64 a, .int .i64 l, v]) (q : Int) (hq : -1 ≤ q ∧ q ≤ 1048576), ACalls Try.prog W 12 #[.agg #[.int .i64 a, .int .i64 l, v], .int .i64 q] H (fun r H' => (∃ q' : Int, r = .int .i64 q' ∧ -1 ≤ q' ∧ q' ≤ 1048576 ∧ (0 ≤ q' → q' + (szG d z : Int) ≤ q + 1)) ∧ Ext H H') := by
  induction d with
  | zero => intro W H ok z a l v hK q hq; exact hK.elim
  | succ d ih =>
    intro W H ok z a l v hK q hq
    obtain ⟨h', l', ks⟩ := z
    obtain ⟨v', e, hr⟩ := kG_succ.1 hK
    simp only [List.cons.injEq, Value.int.injEq, true_and, and_true] at e
    obtain ⟨rfl, rfl, rfl⟩ := e
    exact szGate_of ih hr q hq

set_option maxRecDepth 100000 in
theorem toGateS_of {d : Nat} (ih : ∀ {W : World} {H : Hp} {ok : Nat → Prop} {z : GT d} {a l : Int} {v : Value} (hK : (kG d).rd W H ok z [.int .i64 a, .int .i64 l, v]) (hs : szG d z ≤ 1048577), ACalls Try.prog W 14 #[.agg #[.int .i64 a, .int .i64 l, v]] H (fun r H' => (∃ u, r = .agg #[.int .i64 a, .int .i64 l, u] ∧ (kG d).rd W H' (fun b => H.bd ≤ b) z [.int .i64 a, .int .i64 l, u]) ∧ Ext H H')) {v : Value} {ks : List (GT d)} {ok : Nat → Prop} (hr : RdK (kG d) W H ok v ks) (hs : szL d ks ≤ 1048576) : ACalls Try.prog W 53 #[v] H (fun r H' => Ext H H' ∧ RdK (kG d) W H' (fun b => H.bd ≤ b) r ks) := by
  refine ACalls.of (args := [v]) Try.func53 rfl rfl ?_
  have X0 := Ext.refl H
  have hm1 := hr.max
  have sl22 : SlT Try.prog 22 24 (.agg #[(.int .i64 0), (.int .i64 0), (.slice none 0 0)]) (kG d).sz 40 := by rw [kG_sz]; exact sl22
  have hkl := szL_len ks
  refine AW.rs ?_
  refine AL.val rfl (.inl rfl) (HV.as rfl) ?_
  refine AL.nx ?_
  refine AW.rs ?_
  refine AL.val rfl (.inl rfl) (HV.mv rfl) ?_
  refine AL.val rfl (.inl rfl) (HV.len Try.underlying22 rfl hr.isSl) ?_
  have o2 := X0.bd
  refine AL.w rfl (.inl rfl) (WV.mkKn (K := kC 3) ([.int .i64 0, .int .i64 0, .slice none 0 0] : List Value) (fun _ _ _ => ⟨rfl, rfl, one_cons rfl (one_cons rfl (one_cons rfl one_nil))⟩) sl29 rfl rfl (by omega) (by omega) (by omega)) ?_
  rintro v3 H4 ⟨hx5, ho6⟩
  have X7 := Ext.trans X0 hx5
  have X8 := Ext.refl H4
  have lt10 := ho6.ltb
  refine AL.val rfl (.inl rfl) (HV.as rfl) ?_
  refine AL.nx ?_
  refine AW.seq ?_
  refine AW.rs ?_
  refine AL.val rfl (.inl rfl) (HV.as rfl) ?_
  refine AL.nx ?_
  refine AW.block ?_
  have ho11 := ho6.okk (ok' := fun b => H.bd ≤ b ∧ b < H4.bd) (fun b hb hlt => ⟨hb, hlt⟩)
  refine AW.loop (σ := Nat × List (List Value)) (fun ⟨i, k⟩ => [(0, v), (2, (.slice none 0 0)), (3, v3), (3, v3), (4, .int .i64 (i : Int))]) (fun ⟨i, k⟩ H' => Ext H H' ∧ i ≤ ks.length ∧ k.length = ks.length ∧ (∀ (j : Nat) (x : GT d) (cs : List Value), j < i → ks[j]? = some x → k[j]? = some cs → (kG d).rd W H' (fun b => H4.bd ≤ b) x cs) ∧ OwnK (kC 3) 31 W H' (fun b => H.bd ≤ b ∧ b < H4.bd) v3 k ∧ H4.bd ≤ H'.bd ∧ True) (fun ⟨i, k⟩ => ks.length - i) (0, (List.replicate (ks.length : Int).toNat ([.int .i64 0, .int .i64 0, .slice none 0 0] : List Value))) ⟨X7, Nat.zero_le _, by simp, fun j x cs hj => absurd hj (Nat.not_lt_zero _), ho11, Nat.le_refl _, trivial⟩ ⟨rfl, rfl, rfl, rfl, rfl, trivial⟩ ?_
  rintro ⟨i, k⟩ H12 ⟨X13, hi, hk, he, hoL, hmb, _⟩
  have X14 := Ext.refl H12
  refine AW.seq ?_
  refine AW.rs ?_
  refine AL.val rfl (.inl rfl) (HV.mv rfl) ?_
  refine AL.val rfl (.inl rfl) (HV.mv rfl) ?_
  refine AL.val rfl (.inl rfl) (HV.len Try.underlying22 rfl hr.isSl) ?_
  refine AL.val rfl (.inl rfl) (HV.lti rfl rfl) ?_
  refine AL.nx ?_
  refine AW.ifd rfl (fun c15 => ?_) (fun c15 => ?_)
  · -- then
    refine AW.skip ?_
    refine nrm_and ?_
    refine AW.seq ?_
    refine AW.block ?_
    refine AW.reg ?_
    refine AL.val rfl (.inl rfl) (HV.mv rfl) ?_
    refine AL.val rfl (.inl rfl) (HV.mv rfl) ?_
    refine AL.val rfl (.inl rfl) (HV.mv rfl) ?_
    refine AL.val rfl (.inl rfl) (HV.mv rfl) ?_
    obtain ⟨p16, z17, cs18, hz19, hK20, hC21, hP22⟩ := RdK.ix (q := (i : Int)) hr sl22 (by omega) (by omega)
    obtain ⟨a23, l24, v25, n26, rfl, isl27⟩ := kG_cells hK20
    refine AL.val rfl (.inl rfl) (hP22 rfl rfl) ?_
    refine AL.val rfl (.inl rfl) (HV.lda (cs := [.int .i64 a23, .int .i64 l24, v25]) rfl va24 (hC21.ext X13)) ?_
    have q28 := Nat.le_trans hmb X14.bd
    refine AL.w rfl (.inl rfl) (WV.call fn14 rfl (ih (Kd.ext (kG d) hK20 X13) (by have := szL_mem (List.mem_of_getElem? hz19); omega))) ?_
    rintro _ H29 ⟨⟨u31, rfl, hk32⟩, hx30⟩
    have X33 := Ext.trans X13 hx30
    have X34 := Ext.trans X14 hx30
    have ho35 := hoL.ext hx30
    have X36 := Ext.refl H29
    obtain ⟨g37, z38, cs39, hz40, hK41, hC42, hg43, hP44⟩ := OwnK.ix (q := (i : Int)) ho35 sl29 (by omega) (by omega)
    refine AL.val rfl (.inl rfl) (hP44 rfl rfl) ?_
    obtain ⟨_, isl50⟩ : ∃ n, IsSl u31 n := by obtain ⟨a_, l_, v_, n_, e_, h_⟩ := kG_cells hk32; cases e_; exact ⟨n_, h_⟩
    refine AL.w0 (.inl rfl) (WV.stK (okx := fun _ => False) (x' := [.int .i64 a23, .int .i64 l24, u31]) ho35 hg43 rfl rfl va31 (by omega) ⟨rfl, rfl, one_cons rfl (one_cons rfl (one_cons (sl_one1 isl50) one_nil))⟩ (fun _ h => h.elim)) ?_
    rintro _ H45 ⟨hx46, ho47⟩
    have q49 := Nat.le_trans q28 (Nat.le_trans hx30.bd hx46.bd)
    have X51 := Ext.thru X33 hx46 (fun b hb => Nat.le_trans o2 (ho35.blk b hb).1.1)
    have ho48 := ho47.okk (ok' := fun b => H.bd ≤ b ∧ b < H4.bd) (fun b hb _ => hb.elim id False.elim)
    refine AL.nil ?_
    refine nrm_blk (nrm_and ?_)
    refine AW.reg ?_
    refine AL.val rfl (.inl rfl) (HV.mv rfl) ?_
    refine AL.val rfl (.inl rfl) (HV.add rfl rfl (by omega)) ?_
    refine AL.val rfl (.inl rfl) (HV.as rfl) ?_
    refine AL.nil ?_
    refine nrm_and ?_
    exact ⟨(i + 1, (k.set ((i : Int) : Int).toNat [.int .i64 a23, .int .i64 l24, u31])), ⟨X51, by omega, by simp [hk], fun j x cs hj h1 h2 => by
      by_cases ej : ((i : Nat) : Int).toNat = j
      · rw [List.getElem?_set, if_pos ej, if_pos (by rw [hk]; omega)] at h2
        cases h2
        have ez : x = z17 := Option.some.inj (h1.symm.trans (by rw [← ej]; exact hz19)); rw [ez]
        exact (kG d).but hx46 (fun b hb' _ e => by have h3 := (ho35.blk b e).1.2; have h4 : H4.bd ≤ b := hb'; omega) (fun b e => (ho35.blk b e).2.2) ((kG d).okk (fun b hb' _ => Nat.le_trans q28 hb') hk32)
      · rw [List.getElem?_set, if_neg ej] at h2
        have hj2 : j < i := by
          rcases Nat.lt_or_ge j i with q | q
          · exact q
          · exact absurd (show (((i : Nat) : Int)).toNat = j by omega) ej
        exact (kG d).but hx46 (fun b hb' _ e => by have h3 := (ho35.blk b e).1.2; have h4 : H4.bd ≤ b := hb'; omega) (fun b e => (ho35.blk b e).2.2) (Kd.ext (kG d) (he j x cs hj2 h1 h2) hx30), ho48, q49, trivial⟩, by first | omega | (dsimp only; omega), ⟨rfl, rfl, rfl, rfl, rfl, trivial⟩⟩
  · -- else
    refine AW.exit ?_
    refine ex_and (ex_and (ex_blk ?_))
    refine nrm_and ?_
    refine AW.rs ?_
    refine AL.val rfl (.inl rfl) (HV.mv rfl) ?_
    refine AL.val rfl (.inl rfl) (HV.as rfl) ?_
    refine AL.nx ?_
    refine AW.ret ?_
    refine post_one rfl rfl ?_ (.inr rfl)
    exact ⟨X13, rd_ofC (kG_sz d) hoL hk (fun j x cs h1 h2 => (kG d).okk (fun b hb _ => Nat.le_trans (Nat.le_trans o2 hx5.bd) hb) (he j x cs (by have := (List.getElem?_eq_some_iff.1 h1).1; omega) h1 h2)) (fun b hb => Nat.le_trans o2 hb.1)⟩

set_option maxRecDepth 100000 in
theorem toGate_of {d : Nat} (ih : ∀ {W : World} {H : Hp} {ok : Nat → Prop} {z : GT d} {a l : Int} {v : Value} (hK : (kG d).rd W H ok z [.int .i64 a, .int .i64 l, v]) (hs : szG d z ≤ 1048577), ACalls Try.prog W 14 #[.agg #[.int .i64 a, .int .i64 l, v]] H (fun r H' => (∃ u, r = .agg #[.int .i64 a, .int .i64 l, u] ∧ (kG d).rd W H' (fun b => H.bd ≤ b) z [.int .i64 a, .int .i64 l, u]) ∧ Ext H H')) {h l : Int} {v : Value} {ks : List (GT d)} {ok : Nat → Prop} (hr : RdK (kG d) W H ok v ks) (hs : szG (d + 1) (h, l, ks) ≤ 1048577) : ACalls Try.prog W 14 #[.agg #[.int .i64 h, .int .i64 l, v]] H (fun r H' => (∃ u, r = .agg #[.int .i64 h, .int .i64 l, u] ∧ (kG (d + 1)).rd W H' (fun b => H.bd ≤ b) (h, l, ks) [.int .i64 h, .int .i64 l, u]) ∧ Ext H H') := by
  refine ACalls.of (args := [.agg #[.int .i64 h, .int .i64 l, v]]) Try.func14 rfl rfl ?_
  have X0 := Ext.refl H
  have hm1 := hr.max
  refine AW.rs ?_
  refine AL.w rfl (.inl rfl) (WV.bx rfl rfl) ?_
  rintro _ H3 ⟨b2, rfl, hx4, hn5, hb6⟩
  have o7 := Nat.le_trans X0.bd hn5
  have X8 := Ext.trans X0 hx4
  have X9 := Ext.refl H3
  refine AL.w rfl (.inl rfl) (WV.al ze31 rfl) ?_
  rintro _ H11 ⟨b10, rfl, hx12, hn13, hb14⟩
  have o15 := Nat.le_trans X8.bd hn13
  have o16 := Nat.le_trans X9.bd hn13
  have ne17 : b2 ≠ b10 := by have := hb6.lt; omega
  have X18 := Ext.trans X8 hx12
  have X19 := Ext.trans X9 hx12
  have hb20 := hb6.ext hx12
  have X21 := Ext.refl H11
  refine AL.nx ?_
  refine AW.rs ?_
  refine AL.w rfl (.inl rfl) (WV.al ze31 rfl) ?_
  rintro _ H23 ⟨b22, rfl, hx24, hn25, hb26⟩
  have o27 := Nat.le_trans X18.bd hn25
  have o28 := Nat.le_trans X19.bd hn25
  have o29 := Nat.le_trans X21.bd hn25
  have ne30 : b2 ≠ b22 := by have := hb20.lt; omega
  have ne31 : b10 ≠ b22 := by have := hb14.lt; omega
  have X32 := Ext.trans X18 hx24
  have X33 := Ext.trans X19 hx24
  have X34 := Ext.trans X21 hx24
  have hb35 := hb20.ext hx24
  have hb36 := hb14.ext hx24
  have X37 := Ext.refl H23
  refine AL.nx ?_
  refine AW.rs ?_
  refine AL.val rfl (.inl rfl) (HV.fa fl24_0 rfl) ?_
  refine AL.val rfl (.inl rfl) (HV.ld rfl va2 (at_cell hb35 rfl)) ?_
  refine AL.val rfl (.inl rfl) (HV.fa fl31_0 rfl) ?_
  refine AL.w0 (.inl rfl) (WV.st rfl rfl va2 rfl hb26 (Nat.le_of_ble_eq_true rfl) (one_cons rfl one_nil)) ?_
  rintro _ H38 ⟨hx39, hb40⟩
  have X41 := Ext.thru X32 hx39 (fun z_ hz_ => by rw [hz_]; exact o27)
  have X42 := Ext.thru X33 hx39 (fun z_ hz_ => by rw [hz_]; exact o28)
  have X43 := Ext.thru X34 hx39 (fun z_ hz_ => by rw [hz_]; exact o29)
  have hb45 := hb35.but hx39 ne30
  have hb46 := hb36.but hx39 ne31
  have hb47 : At W H38 b22 ⟨31, [.int .i64 h, .int .i64 0, (.slice none 0 0)], 3⟩ := hb40
  refine AL.nx ?_
  refine AW.rs ?_
  refine AL.val rfl (.inl rfl) (HV.fa fl24_1 rfl) ?_
  refine AL.val rfl (.inl rfl) (HV.ld rfl va2 (at_cell_add hb45 rfl)) ?_
  refine AL.val rfl (.inl rfl) (HV.fa fl31_1 rfl) ?_
  refine AL.w0 (.inl rfl) (WV.st rfl rfl va2 rfl hb47 (Nat.le_of_ble_eq_true rfl) (one_cons rfl one_nil)) ?_
  rintro _ H48 ⟨hx49, hb50⟩
  have X51 := Ext.thru X41 hx49 (fun z_ hz_ => by rw [hz_]; exact o27)
  have X52 := Ext.thru X42 hx49 (fun z_ hz_ => by rw [hz_]; exact o28)
  have X53 := Ext.thru X43 hx49 (fun z_ hz_ => by rw [hz_]; exact o29)
  have hb54 := hb45.but hx49 ne30
  have hb55 := hb46.but hx49 ne31
  have hb56 : At W H48 b22 ⟨31, [.int .i64 h, .int .i64 l, (.slice none 0 0)], 3⟩ := hb50
  refine AL.nx ?_
  refine AW.rs ?_
  refine AL.val rfl (.inl rfl) (HV.fa fl24_2 rfl) ?_
  refine AL.val rfl (.inl rfl) (HV.ld rfl va22 (at_cell_add hb54 rfl)) ?_
  have X57 := Ext.refl H48
  have y58 := hb54.lt
  have y59 := hb55.lt
  have y60 := hb56.lt
  have o61 := X51.bd
  have o62 := X52.bd
  have o63 := X53.bd
  have o64 := X57.bd
  refine AL.w rfl (.inl rfl) (WV.call fn53 rfl (toGateS_of ih (hr.ext X51) (by rw [szG_succ] at hs; omega))) ?_
  rintro v65 H66 ⟨hx67, ho68⟩
  have X69 := Ext.trans X51 hx67
  have X70 := Ext.trans X52 hx67
  have X71 := Ext.trans X53 hx67
  have X72 := Ext.trans X57 hx67
  have hb73 := hb54.ext hx67
  have hb74 := hb55.ext hx67
  have hb75 := hb56.ext hx67
  refine AL.val rfl (.inl rfl) (HV.fa fl31_2 rfl) ?_
  refine AL.w0 (.inl rfl) (WV.st rfl rfl va29 (sl_size ho68.isSl) hb75 (Nat.le_of_ble_eq_true rfl) (sl_one ho68.isSl)) ?_
  rintro _ H77 ⟨hx78, hb79⟩
  rw [sl_cells ho68.isSl] at hb79
  have X80 := Ext.thru X69 hx78 (fun z_ hz_ => by rw [hz_]; exact o27)
  have X81 := Ext.thru X70 hx78 (fun z_ hz_ => by rw [hz_]; exact o28)
  have X82 := Ext.thru X71 hx78 (fun z_ hz_ => by rw [hz_]; exact o29)
  have ho84 := ho68.but hx78 (fun b hb _ e => by have h1 : H48.bd ≤ b := hb; have e' : b = b22 := e; omega) (fun z_ hz_ => by rw [hz_]; exact hb75.w)
  have hb85 := hb73.but hx78 ne30
  have hb86 := hb74.but hx78 ne31
  have hb87 : At W H77 b22 ⟨31, [.int .i64 h, .int .i64 l, v65], 3⟩ := hb79
  refine AL.nx ?_
  refine AW.rs ?_
  refine AL.val rfl (.inl rfl) (HV.lda (cs := [.int .i64 h, .int .i64 l, v65]) rfl va31 (at_cells hb87 rfl)) ?_
  refine AL.w0 (.inl rfl) (WV.st rfl rfl va31 rfl hb86 (Nat.le_of_ble_eq_true rfl) (one_cons rfl (one_cons rfl (one_cons (sl_one1 ho84.isSl) one_nil)))) ?_
  rintro _ H88 ⟨hx89, hb90⟩
  have X91 := Ext.thru X80 hx89 (fun z_ hz_ => by rw [hz_]; exact o15)
  have X92 := Ext.thru X81 hx89 (fun z_ hz_ => by rw [hz_]; exact o16)
  have ho94 := ho84.but hx89 (fun b hb _ e => by have h1 : H48.bd ≤ b := hb; have e' : b = b10 := e; omega) (fun z_ hz_ => by rw [hz_]; exact hb86.w)
  have hb95 := hb85.but hx89 ne17
  have hb96 := hb87.but hx89 (fun e => ne31 e.symm)
  have hb97 : At W H88 b10 ⟨31, [.int .i64 h, .int .i64 l, v65], 3⟩ := hb90
  refine AL.nx ?_
  refine AW.ret ?_
  refine post_cell rfl rfl va31 hb97 ?_ (.inr rfl)
  exact ⟨⟨_, rfl, kG_succ.2 ⟨_, rfl, ho94.okk (fun b hb _ => Nat.le_trans o61 hb)⟩⟩, X91⟩

theorem toGate_all (d : Nat) : ∀ {W : World} {H : Hp} {ok : Nat → Prop} {z : GT d} {a l : Int} {v : Value} (hK : (kG d).rd W H ok z [.int .i64 a, .int .i64 l, v]) (hs : szG d z ≤ 1048577), ACalls Try.prog W 14 #[.agg #[.int .i64 a, .int .i64 l, v]] H (fun r H' => (∃ u, r = .agg #[.int .i64 a, .int .i64 l, u] ∧ (kG d).rd W H' (fun b => H.bd ≤ b) z [.int .i64 a, .int .i64 l, u]) ∧ Ext H H') := by
  induction d with
  | zero => intro W H ok z a l v hK hs; exact hK.elim
  | succ d ih =>
    intro W H ok z a l v hK hs
    obtain ⟨h', l', ks⟩ := z
    obtain ⟨v', e, hr⟩ := kG_succ.1 hK
    simp only [List.cons.injEq, Value.int.injEq, true_and, and_true] at e
    obtain ⟨rfl, rfl, rfl⟩ := e
    exact toGate_of ih hr hs

set_option maxRecDepth 100000 in
theorem eqGateS_of {d : Nat} (ih : ∀ {W : World} {H : Hp} {ok ok2 : Nat → Prop} {z : GT d} {a l a2 l2 : Int} {v v2 : Value} (hK : (kG d).rd W H ok z [.int .i64 a, .int .i64 l, v]) (hK2 : (kG d).rd W H ok2 z [.int .i64 a2, .int .i64 l2, v2]), ACalls Try.prog W 17 #[.agg #[.int .i64 a, .int .i64 l, v], .agg #[.int .i64 a2, .int .i64 l2, v2]] H (fun r H' => r = .bool true ∧ Ext H H')) {v v2 : Value} {ks : List (GT d)} {ok ok2 : Nat → Prop} (hr : RdK (kG d) W H ok v ks) (hr2 : RdK (kG d) W H ok2 v2 ks) : ACalls Try.prog W 58 #[v, v2] H (fun r H' => r = .bool true ∧ Ext H H') := by
  refine ACalls.of (args := [v, v2]) Try.func58 rfl rfl ?_
  have X0 := Ext.refl H
  have hm1 := hr.max
  have hm2 := hr2.max
  have sl29 : SlT Try.prog 29 31 (.agg #[(.int .i64 0), (.int .i64 0), (.slice none 0 0)]) (kG d).sz 40 := by rw [kG_sz]; exact sl29
  refine AW.rs ?_
  refine AL.val rfl (.inl rfl) (HV.as rfl) ?_
  refine AL.nx ?_
  refine AW.seq ?_
  refine AW.rs ?_
  refine AL.val rfl (.inl rfl) (HV.mv rfl) ?_
  refine AL.val rfl (.inl rfl) (HV.len Try.underlying29 rfl hr.isSl) ?_
  refine AL.val rfl (.inl rfl) (HV.mv rfl) ?_
  refine AL.val rfl (.inl rfl) (HV.len Try.underlying29 rfl hr2.isSl) ?_
  refine AL.val rfl (.inl rfl) (HV.nei rfl rfl) ?_
  refine AL.nx ?_
  refine AW.ifd rfl (fun c3 => ?_) (fun c3 => ?_)
  · -- then
    refine AW.rs ?_
    refine AL.val rfl (.inl rfl) (HV.as rfl) ?_
    refine AL.nx ?_
    refine AW.ret ?_
    refine ret_and ?_
    refine post_one rfl rfl ?_ (.inr rfl)
    exact absurd rfl c3
  · -- else
    refine AW.skip ?_
    refine nrm_and ?_
    refine AW.seq ?_
    refine AW.rs ?_
    refine AL.val rfl (.inl rfl) (HV.as rfl) ?_
    refine AL.nx ?_
    refine AW.block ?_
    refine AW.loop (σ := Nat) (fun i => [(0, v), (1, v2), (5, .int .i64 (i : Int))]) (fun i H' => Ext H H' ∧ i ≤ ks.length ∧ True) (fun i => ks.length - i) 0 ⟨X0, Nat.zero_le _, trivial⟩ ⟨rfl, rfl, rfl, trivial⟩ ?_
    rintro i H4 ⟨X5, hi, _⟩
    refine AW.seq ?_
    refine AW.rs ?_
    refine AL.val rfl (.inl rfl) (HV.mv rfl) ?_
    refine AL.val rfl (.inl rfl) (HV.mv rfl) ?_
    refine AL.val rfl (.inl rfl) (HV.len Try.underlying29 rfl hr.isSl) ?_
    refine AL.val rfl (.inl rfl) (HV.lti rfl rfl) ?_
    refine AL.nx ?_
    refine AW.ifd rfl (fun c6 => ?_) (fun c6 => ?_)
    · -- then
      refine AW.skip ?_
      refine nrm_and ?_
      refine AW.seq ?_
      refine AW.block ?_
      refine AW.seq ?_
      refine AW.draw' [0, 0, 3, 7, 0, 0, 48, 112, 255, 511] mixed (by rfl) ?_
      refine Dr.read 0 _ 17 _ rfl rfl rfl rfl rfl (RV.of (by intro _ _ h; cases h) (.inl rfl) (fun _ xd => HV.mv rfl)) ?_
      refine Dr.read 1 _ 18 _ rfl rfl rfl rfl rfl (RV.of (by intro _ _ h; cases h) (.inl rfl) (fun _ xd => HV.mv rfl)) ?_
      obtain ⟨p7, z8, cs9, hz10, hK11, hC12, hP13⟩ := RdK.ix (q := (i : Int)) hr sl29 (by omega) (by omega)
      obtain ⟨a14, l15, v16, n17, rfl, isl18⟩ := kG_cells hK11
      refine Dr.read 2 _ 19 _ rfl rfl rfl rfl rfl (RV.of (by intro _ _ h; cases h) (.inl rfl) (fun _ xd => hP13 rfl rfl)) ?_
      refine Dr.read 3 _ 20 _ rfl rfl rfl rfl rfl (RV.of (by intro _ _ h; cases h) (.inl rfl) (fun _ xd => HV.lda (cs := [.int .i64 a14, .int .i64 l15, v16]) rfl va31 (fun j u hu => rdc_ext xd ((hC12.ext X5) j u hu)))) ?_
      refine Dr.read 4 _ 21 _ rfl rfl rfl rfl rfl (RV.of (by intro _ _ h; cases h) (.inl rfl) (fun _ xd => HV.mv rfl)) ?_
      refine Dr.read 5 _ 22 _ rfl rfl rfl rfl rfl (RV.of (by intro _ _ h; cases h) (.inl rfl) (fun _ xd => HV.mv rfl)) ?_
      obtain ⟨p19, z20, cs21, hz22, hK23, hC24, hP25⟩ := RdK.ix (q := (i : Int)) hr2 sl29 (by omega) (by omega)
      obtain ⟨a26, l27, v28, n29, rfl, isl30⟩ := kG_cells hK23
      refine Dr.read 6 _ 23 _ rfl rfl rfl rfl rfl (RV.of (by intro _ _ h; cases h) (.inl rfl) (fun _ xd => hP25 rfl rfl)) ?_
      refine Dr.read 7 _ 24 _ rfl rfl rfl rfl rfl (RV.of (by intro _ _ h; cases h) (.inl rfl) (fun _ xd => HV.lda (cs := [.int .i64 a26, .int .i64 l27, v28]) rfl va31 (fun j u hu => rdc_ext xd ((hC24.ext X5) j u hu)))) ?_
      refine Dr.eff 8 _ _ rfl (by intro d h; cases h; exact ⟨rfl, rfl⟩) rfl rfl rfl (EC.of (by intro _ _ h; cases h) (.inl rfl) (WV.call fn17 rfl (ih (Kd.ext (kG d) hK11 X5) (gk_same hz10 hz22 (Kd.ext (kG d) hK23 X5))))) (fun v H' h => .inl (h.2)) ?_
      rintro _ H31 ⟨rfl, hx32⟩
      have X33 := Ext.trans X5 hx32
      refine Dr.read 9 _ 26 _ rfl rfl rfl rfl rfl (RV.of (by intro _ _ h; cases h) (.inl rfl) (fun _ xd => HV.not rfl)) ?_
      refine Dr.fin rfl ?_
      refine nrm_and ?_
      refine AW.cond rfl (fun c34 => ?_) (fun c34 => ?_)
      · -- then
        refine AW.rs ?_
        refine AL.val rfl (.inl rfl) (HV.as rfl) ?_
        refine AL.nx ?_
        refine AW.ret ?_
        refine ret_blk (ret_and (ret_and (ret_blk (ret_and ?_))))
        refine post_one rfl rfl ?_ (.inr rfl)
        exact absurd c34 (by decide)
      · -- else
        refine AW.skip ?_
        refine nrm_blk (nrm_and ?_)
        refine AW.reg ?_
        refine AL.val rfl (.inl rfl) (HV.mv rfl) ?_
        refine AL.val rfl (.inl rfl) (HV.add rfl rfl (by omega)) ?_
        refine AL.val rfl (.inl rfl) (HV.as rfl) ?_
        refine AL.nil ?_
        refine nrm_and ?_
        exact ⟨i + 1, ⟨X33, by omega, trivial⟩, by first | omega | (dsimp only; omega), ⟨rfl, rfl, rfl, trivial⟩⟩
    · -- else
      refine AW.exit ?_
      refine ex_and (ex_and (ex_blk ?_))
      refine nrm_and ?_
      refine AW.rs ?_
      refine AL.val rfl (.inl rfl) (HV.as rfl) ?_
      refine AL.nx ?_
      refine AW.ret ?_
      refine post_one rfl rfl ?_ (.inr rfl)
      exact ⟨rfl, X5⟩

set_option maxRecDepth 100000 in
theorem eqGate_of {d : Nat} (ih : ∀ {W : World} {H : Hp} {ok ok2 : Nat → Prop} {z : GT d} {a l a2 l2 : Int} {v v2 : Value} (hK : (kG d).rd W H ok z [.int .i64 a, .int .i64 l, v]) (hK2 : (kG d).rd W H ok2 z [.int .i64 a2, .int .i64 l2, v2]), ACalls Try.prog W 17 #[.agg #[.int .i64 a, .int .i64 l, v], .agg #[.int .i64 a2, .int .i64 l2, v2]] H (fun r H' => r = .bool true ∧ Ext H H')) {h l : Int} {v v2 : Value} {ks : List (GT d)} {ok ok2 : Nat → Prop} (hr : RdK (kG d) W H ok v ks) (hr2 : RdK (kG d) W H ok2 v2 ks) : ACalls Try.prog W 17 #[.agg #[.int .i64 h, .int .i64 l, v], .agg #[.int .i64 h, .int .i64 l, v2]] H (fun r H' => r = .bool true ∧ Ext H H') := by
  refine ACalls.of (args := [.agg #[.int .i64 h, .int .i64 l, v], .agg #[.int .i64 h, .int .i64 l, v2]]) Try.func17 rfl rfl ?_
  have X0 := Ext.refl H
  have hm1 := hr.max
  have hm2 := hr2.max
  refine AW.rs ?_
  refine AL.w rfl (.inl rfl) (WV.bx rfl rfl) ?_
  rintro _ H4 ⟨b3, rfl, hx5, hn6, hb7⟩
  have o8 := Nat.le_trans X0.bd hn6
  have X9 := Ext.trans X0 hx5
  have X10 := Ext.refl H4
  refine AL.w rfl (.inl rfl) (WV.bx rfl rfl) ?_
  rintro _ H12 ⟨b11, rfl, hx13, hn14, hb15⟩
  have o16 := Nat.le_trans X9.bd hn14
  have o17 := Nat.le_trans X10.bd hn14
  have ne18 : b3 ≠ b11 := by have := hb7.lt; omega
  have X19 := Ext.trans X9 hx13
  have X20 := Ext.trans X10 hx13
  have hb21 := hb7.ext hx13
  have X22 := Ext.refl H12
  refine AL.val rfl (.inl rfl) (HV.as rfl) ?_
  refine AL.nx ?_
  refine AW.seq ?_
  refine AW.rs ?_
  refine AL.val rfl (.inl rfl) (HV.fa fl31_0 rfl) ?_
  refine AL.val rfl (.inl rfl) (HV.ld rfl va2 (at_cell hb21 rfl)) ?_
  refine AL.val rfl (.inl rfl) (HV.fa fl31_0 rfl) ?_
  refine AL.val rfl (.inl rfl) (HV.ld rfl va2 (at_cell hb15 rfl)) ?_
  refine AL.val rfl (.inl rfl) (HV.nei rfl rfl) ?_
  refine AL.nx ?_
  refine AW.ifd rfl (fun c23 => ?_) (fun c23 => ?_)
  · -- then
    refine AW.rs ?_
    refine AL.val rfl (.inl rfl) (HV.as rfl) ?_
    refine AL.nx ?_
    refine AW.ret ?_
    refine ret_and ?_
    refine post_one rfl rfl ?_ (.inr rfl)
    exact absurd rfl c23
  · -- else
    refine AW.skip ?_
    refine nrm_and ?_
    refine AW.seq ?_
    refine AW.rs ?_
    refine AL.val rfl (.inl rfl) (HV.fa fl31_1 rfl) ?_
    refine AL.val rfl (.inl rfl) (HV.ld rfl va2 (at_cell_add hb21 rfl)) ?_
    refine AL.val rfl (.inl rfl) (HV.fa fl31_1 rfl) ?_
    refine AL.val rfl (.inl rfl) (HV.ld rfl va2 (at_cell_add hb15 rfl)) ?_
    refine AL.val rfl (.inl rfl) (HV.nei rfl rfl) ?_
    refine AL.nx ?_
    refine AW.ifd rfl (fun c24 => ?_) (fun c24 => ?_)
    · -- then
      refine AW.rs ?_
      refine AL.val rfl (.inl rfl) (HV.as rfl) ?_
      refine AL.nx ?_
      refine AW.ret ?_
      refine ret_and ?_
      refine post_one rfl rfl ?_ (.inr rfl)
      exact absurd rfl c24
    · -- else
      refine AW.skip ?_
      refine nrm_and ?_
      refine AW.seq ?_
      refine AW.rs ?_
      refine AL.val rfl (.inl rfl) (HV.fa fl31_2 rfl) ?_
      refine AL.val rfl (.inl rfl) (HV.ld rfl va29 (at_cell_add hb21 rfl)) ?_
      refine AL.val rfl (.inl rfl) (HV.fa fl31_2 rfl) ?_
      refine AL.val rfl (.inl rfl) (HV.ld rfl va29 (at_cell_add hb15 rfl)) ?_
      refine AL.w rfl (.inl rfl) (WV.call fn58 rfl (eqGateS_of ih (hr.ext X19) (hr2.ext X19))) ?_
      rintro _ H25 ⟨rfl, hx26⟩
      have X27 := Ext.trans X19 hx26
      have X28 := Ext.trans X20 hx26
      have X29 := Ext.trans X22 hx26
      have hb30 := hb21.ext hx26
      have hb31 := hb15.ext hx26
      refine AL.val rfl (.inl rfl) (HV.not rfl) ?_
      refine AL.nx ?_
      refine AW.cond rfl (fun c32 => ?_) (fun c32 => ?_)
      · -- then
        refine AW.rs ?_
        refine AL.val rfl (.inl rfl) (HV.as rfl) ?_
        refine AL.nx ?_
        refine AW.ret ?_
        refine ret_and ?_
        refine post_one rfl rfl ?_ (.inr rfl)
        exact absurd c32 (by decide)
      · -- else
        refine AW.skip ?_
        refine nrm_and ?_
        refine AW.rs ?_
        refine AL.val rfl (.inl rfl) (HV.as rfl) ?_
        refine AL.nx ?_
        refine AW.ret ?_
        refine post_one rfl rfl ?_ (.inr rfl)
        exact ⟨rfl, X27⟩

theorem eqGate_all (d : Nat) : ∀ {W : World} {H : Hp} {ok ok2 : Nat → Prop} {z : GT d} {a l a2 l2 : Int} {v v2 : Value} (hK : (kG d).rd W H ok z [.int .i64 a, .int .i64 l, v]) (hK2 : (kG d).rd W H ok2 z [.int .i64 a2, .int .i64 l2, v2]), ACalls Try.prog W 17 #[.agg #[.int .i64 a, .int .i64 l, v], .agg #[.int .i64 a2, .int .i64 l2, v2]] H (fun r H' => r = .bool true ∧ Ext H H') := by
  induction d with
  | zero => intro W H ok ok2 z a l a2 l2 v v2 hK hK2; exact hK.elim
  | succ d ih =>
    intro W H ok ok2 z a l a2 l2 v v2 hK hK2
    obtain ⟨h', l', ks⟩ := z
    obtain ⟨v', e, hr⟩ := kG_succ.1 hK
    simp only [List.cons.injEq, Value.int.injEq, true_and, and_true] at e
    obtain ⟨rfl, rfl, rfl⟩ := e
    obtain ⟨v', e, hr2⟩ := kG_succ.1 hK2
    simp only [List.cons.injEq, Value.int.injEq, true_and, and_true] at e
    obtain ⟨rfl, rfl, rfl⟩ := e
    exact eqGate_of ih hr hr2

set_option maxRecDepth 100000 in
theorem l02Left_of {d : Nat} (ih : ∀ {p : Addr} {W : World} {H : Hp} {ok : Nat → Prop} {z : GT d} {a l : Int} {v : Value} (hK : (kG d).rd W H ok z [.int .i64 a, .int .i64 l, v]) (hc : Cells W H p [.int .i64 a, .int .i64 l, v]) (q : Int) (hq : 0 ≤ q ∧ q ≤ 60), ACalls Try.prog W 85 #[.pointer (some p), .int .i64 q] H (fun r H' => r = .int .i64 (max (q - (szG d z : Int)) (-1)) ∧ Ext H H')) {p : Addr} {h l : Int} {v : Value} {ks : List (GT d)} {ok : Nat → Prop} (hr : RdK (kG d) W H ok v ks) (hc : Cells W H p [.int .i64 h, .int .i64 l, v]) (q : Int) (hq : 0 ≤ q ∧ q ≤ 60) : ACalls Try.prog W 85 #[.pointer (some p), .int .i64 q] H (fun r H' => r = .int .i64 (max (q - (szG (d + 1) (h, l, ks) : Int)) (-1)) ∧ Ext H H') := by
  refine ACalls.of (args := [.pointer (some p), .int .i64 q]) Try.func85 rfl rfl ?_
  have X0 := Ext.refl H
  have hmx := hr.max
  have sl29 : SlT Try.prog 29 31 (.agg #[(.int .i64 0), (.int .i64 0), (.slice none 0 0)]) (kG d).sz 40 := by rw [kG_sz]; exact sl29
  refine AW.rs ?_
  refine AL.val rfl (.inl rfl) (HV.as rfl) ?_
  refine AL.nx ?_
  refine AW.rs ?_
  refine AL.val rfl (.inl rfl) (HV.mv rfl) ?_
  refine AL.val rfl (.inl rfl) (HV.sub rfl rfl (by omega)) ?_
  refine AL.val rfl (.inl rfl) (HV.as rfl) ?_
  refine AL.nx ?_
  refine AW.seq ?_
  refine AW.rs ?_
  refine AL.val rfl (.inl rfl) (HV.as rfl) ?_
  refine AL.nx ?_
  refine AW.block ?_
  refine AW.loop (σ := Nat × Int) (fun ⟨i, a⟩ => [(0, .pointer (some p)), (4, .int .i64 0), (1, .int .i64 a), (5, .int .i64 (i : Int))]) (fun ⟨i, a⟩ H' => Ext H H' ∧ i ≤ ks.length ∧ a = max (q - 1 - (szL d (ks.take i) : Int)) (-1) ∧ True) (fun ⟨i, a⟩ => ks.length - i) (0, (q - 1)) ⟨X0, Nat.zero_le _, by show _ = max (_ - ((0 : Nat) : Int)) _; omega, trivial⟩ ⟨rfl, rfl, rfl, rfl, trivial⟩ ?_
  rintro ⟨i, a⟩ H1 ⟨X2, hi, ha, _⟩
  refine AW.seq ?_
  refine AW.rs ?_
  refine AL.val rfl (.inl rfl) (HV.mv rfl) ?_
  refine AL.val rfl (.inl rfl) (HV.mv rfl) ?_
  refine AL.val rfl (.inl rfl) (HV.nc rfl) ?_
  refine AL.val rfl (.inl rfl) (HV.fa fl31_2 rfl) ?_
  refine AL.val rfl (.inl rfl) (HV.ld rfl va29 (cells_at (hc.ext X2) rfl)) ?_
  refine AL.val rfl (.inl rfl) (HV.len Try.underlying29 rfl hr.isSl) ?_
  refine AL.val rfl (.inl rfl) (HV.lti rfl rfl) ?_
  refine AL.val rfl (.inl rfl) (HV.mv rfl) ?_
  by_cases c3 : (i : Int) < (ks.length : Int)
  · -- true
    have c3_ : decide ((i : Int) < (ks.length : Int)) = true := decide_eq_true c3
    rw [c3_]
    refine AL.val rfl (.inr ⟨_, _, _, rfl, rfl, rfl⟩) (HV.mv rfl) ?_
    refine AL.val rfl (.inr ⟨_, _, _, rfl, rfl, rfl⟩) (HV.gei rfl rfl) ?_
    refine AL.val rfl (.inl rfl) (HV.pickT rfl rfl) ?_
    refine AL.nx ?_
    refine AW.ifd rfl (fun c4 => ?_) (fun c4 => ?_)
    · -- then
      refine AW.skip ?_
      refine nrm_and ?_
      refine AW.seq ?_
      refine AW.block ?_
      refine AW.reg ?_
      refine AL.val rfl (.inl rfl) (HV.mv rfl) ?_
      refine AL.val rfl (.inl rfl) (HV.nc rfl) ?_
      refine AL.val rfl (.inl rfl) (HV.fa fl31_2 rfl) ?_
      refine AL.val rfl (.inl rfl) (HV.ld rfl va29 (cells_at (hc.ext X2) rfl)) ?_
      refine AL.val rfl (.inl rfl) (HV.mv rfl) ?_
      obtain ⟨p5, z6, cs7, hz8, hK9, hC10, hP11⟩ := RdK.ix (q := (i : Int)) hr sl29 (by omega) (by omega)
      obtain ⟨a12, l13, v14, n15, rfl, isl16⟩ := kG_cells hK9
      refine AL.val rfl (.inl rfl) (hP11 rfl rfl) ?_
      refine AL.val rfl (.inl rfl) (HV.mv rfl) ?_
      refine AL.w rfl (.inl rfl) (WV.call fn85 rfl (ih (Kd.ext (kG d) hK9 X2) (hC10.ext X2) a (by omega))) ?_
      rintro _ H17 ⟨rfl, hx18⟩
      have X19 := Ext.trans X2 hx18
      refine AL.val rfl (.inl rfl) (HV.as rfl) ?_
      refine AL.nil ?_
      refine nrm_blk (nrm_and ?_)
      refine AW.reg ?_
      refine AL.val rfl (.inl rfl) (HV.mv rfl) ?_
      refine AL.val rfl (.inl rfl) (HV.add rfl rfl (by omega)) ?_
      refine AL.val rfl (.inl rfl) (HV.as rfl) ?_
      refine AL.nil ?_
      refine nrm_and ?_
      exact ⟨(i + 1, max (a - (szG d z6 : Int)) (-1)), ⟨X19, by omega, by rw [szL_snoc (getq hz8 rfl)]; omega, trivial⟩, by first | omega | (dsimp only; omega), ⟨rfl, rfl, rfl, rfl, trivial⟩⟩
    · -- else
      refine AW.exit ?_
      refine ex_and (ex_and (ex_blk ?_))
      refine nrm_and ?_
      refine AW.rs ?_
      refine AL.val rfl (.inl rfl) (HV.mv rfl) ?_
      refine AL.val rfl (.inl rfl) (HV.as rfl) ?_
      refine AL.nx ?_
      refine AW.ret ?_
      refine post_one rfl rfl ?_ (.inr rfl)
      exact ⟨congrArg (Value.int .i64) (by rw [szG_succ]; have h9 := szL_take ks i (d := d); omega), X2⟩
  · -- false
    have c3_ : decide ((i : Int) < (ks.length : Int)) = false := decide_eq_false c3
    rw [c3_]
    refine AL.off rfl rfl (by decide) rfl ?_
    refine AL.off rfl rfl (by decide) rfl ?_
    refine AL.val rfl (.inl rfl) (HV.pickF rfl rfl) ?_
    refine AL.nx ?_
    refine AW.cond rfl (fun h => by cases h) (fun _ => ?_)
    refine AW.exit ?_
    refine ex_and (ex_and (ex_blk ?_))
    refine nrm_and ?_
    refine AW.rs ?_
    refine AL.val rfl (.inl rfl) (HV.mv rfl) ?_
    refine AL.val rfl (.inl rfl) (HV.as rfl) ?_
    refine AL.nx ?_
    refine AW.ret ?_
    refine post_one rfl rfl ?_ (.inr rfl)
    exact ⟨congrArg (Value.int .i64) (by rw [szG_succ]; have h9 := szL_take ks i (d := d); rw [List.take_of_length_le (by omega)] at ha; omega), X2⟩

theorem l02Left_all (d : Nat) : ∀ {p : Addr} {W : World} {H : Hp} {ok : Nat → Prop} {z : GT d} {a l : Int} {v : Value} (hK : (kG d).rd W H ok z [.int .i64 a, .int .i64 l, v]) (hc : Cells W H p [.int .i64 a, .int .i64 l, v]) (q : Int) (hq : 0 ≤ q ∧ q ≤ 60), ACalls Try.prog W 85 #[.pointer (some p), .int .i64 q] H (fun r H' => r = .int .i64 (max (q - (szG d z : Int)) (-1)) ∧ Ext H H') := by
  induction d with
  | zero => intro p W H ok z a l v hK hc q hq; exact hK.elim
  | succ d ih =>
    intro p W H ok z a l v hK hc q hq
    obtain ⟨h', l', ks⟩ := z
    obtain ⟨v', e, hr⟩ := kG_succ.1 hK
    simp only [List.cons.injEq, Value.int.injEq, true_and, and_true] at e
    obtain ⟨rfl, rfl, rfl⟩ := e
    exact l02Left_of ih hr hc q hq

set_option maxRecDepth 100000 in
theorem max_ok (a b : Int) : ACalls Try.prog W 105 #[.int .i64 a, .int .i64 b] H (fun r H' => r = .int .i64 (max a b) ∧ Ext H H') := by
  refine ACalls.of (args := [.int .i64 a, .int .i64 b]) Try.func105 rfl rfl ?_
  have X0 := Ext.refl H
  refine AW.rs ?_
  refine AL.val rfl (.inl rfl) (HV.as rfl) ?_
  refine AL.nx ?_
  refine AW.seq ?_
  refine AW.rs ?_
  refine AL.val rfl (.inl rfl) (HV.mv rfl) ?_
  refine AL.val rfl (.inl rfl) (HV.mv rfl) ?_
  refine AL.val rfl (.inl rfl) (HV.gti rfl rfl) ?_
  refine AL.nx ?_
  refine AW.ifd rfl (fun c1 => ?_) (fun c1 => ?_)
  · -- then
    refine AW.rs ?_
    refine AL.val rfl (.inl rfl) (HV.mv rfl) ?_
    refine AL.val rfl (.inl rfl) (HV.as rfl) ?_
    refine AL.nx ?_
    refine AW.ret ?_
    refine ret_and ?_
    refine post_one rfl rfl ?_ (.inr rfl)
    exact ⟨congrArg (Value.int .i64) (by omega), X0⟩
  · -- else
    refine AW.skip ?_
    refine nrm_and ?_
    refine AW.rs ?_
    refine AL.val rfl (.inl rfl) (HV.mv rfl) ?_
    refine AL.val rfl (.inl rfl) (HV.as rfl) ?_
    refine AL.nx ?_
    refine AW.ret ?_
    refine post_one rfl rfl ?_ (.inr rfl)
    exact ⟨congrArg (Value.int .i64) (by omega), X0⟩

set_option maxRecDepth 100000 in
theorem l02Depth_of {d : Nat} (ih : ∀ {p : Addr} {W : World} {H : Hp} {ok : Nat → Prop} {z : GT d} {a l : Int} {v : Value} (hK : (kG d).rd W H ok z [.int .i64 a, .int .i64 l, v]) (hc : Cells W H p [.int .i64 a, .int .i64 l, v]) (hs : szG d z ≤ 60), ACalls Try.prog W 86 #[.pointer (some p)] H (fun r H' => r = .int .i64 (dpG d z : Int) ∧ Ext H H')) {p : Addr} {h l : Int} {v : Value} {ks : List (GT d)} {ok : Nat → Prop} (hr : RdK (kG d) W H ok v ks) (hc : Cells W H p [.int .i64 h, .int .i64 l, v]) (hs : szG (d + 1) (h, l, ks) ≤ 60) : ACalls Try.prog W 86 #[.pointer (some p)] H (fun r H' => r = .int .i64 (dpG (d + 1) (h, l, ks) : Int) ∧ Ext H H') := by
  refine ACalls.of (args := [.pointer (some p)]) Try.func86 rfl rfl ?_
  have X0 := Ext.refl H
  have hmx := hr.max
  have sl29 : SlT Try.prog 29 31 (.agg #[(.int .i64 0), (.int .i64 0), (.slice none 0 0)]) (kG d).sz 40 := by rw [kG_sz]; exact sl29
  rw [szG_succ] at hs
  refine AW.rs ?_
  refine AL.val rfl (.inl rfl) (HV.as rfl) ?_
  refine AL.nx ?_
  refine AW.rs ?_
  refine AL.val rfl (.inl rfl) (HV.as rfl) ?_
  refine AL.nx ?_
  refine AW.seq ?_
  refine AW.rs ?_
  refine AL.val rfl (.inl rfl) (HV.as rfl) ?_
  refine AL.nx ?_
  refine AW.block ?_
  refine AW.loop (σ := Nat × Int) (fun ⟨i, a⟩ => [(0, .pointer (some p)), (2, .int .i64 0), (3, .int .i64 a), (4, .int .i64 (i : Int))]) (fun ⟨i, a⟩ H' => Ext H H' ∧ i ≤ ks.length ∧ a = ((mxL ((ks.take i).map (dpG d)) : Nat) : Int) ∧ True) (fun ⟨i, a⟩ => ks.length - i) (0, 0) ⟨X0, Nat.zero_le _, rfl, trivial⟩ ⟨rfl, rfl, rfl, rfl, trivial⟩ ?_
  rintro ⟨i, a⟩ H1 ⟨X2, hi, ha, _⟩
  have hmm := mx_take ks i (d := d)
  refine AW.seq ?_
  refine AW.rs ?_
  refine AL.val rfl (.inl rfl) (HV.mv rfl) ?_
  refine AL.val rfl (.inl rfl) (HV.mv rfl) ?_
  refine AL.val rfl (.inl rfl) (HV.nc rfl) ?_
  refine AL.val rfl (.inl rfl) (HV.fa fl31_2 rfl) ?_
  refine AL.val rfl (.inl rfl) (HV.ld rfl va29 (cells_at (hc.ext X2) rfl)) ?_
  refine AL.val rfl (.inl rfl) (HV.len Try.underlying29 rfl hr.isSl) ?_
  refine AL.val rfl (.inl rfl) (HV.lti rfl rfl) ?_
  refine AL.nx ?_
  refine AW.ifd rfl (fun c3 => ?_) (fun c3 => ?_)
  · -- then
    refine AW.skip ?_
    refine nrm_and ?_
    refine AW.seq ?_
    refine AW.block ?_
    refine AW.reg ?_
    refine AL.val rfl (.inl rfl) (HV.mv rfl) ?_
    refine AL.val rfl (.inl rfl) (HV.mv rfl) ?_
    refine AL.val rfl (.inl rfl) (HV.nc rfl) ?_
    refine AL.val rfl (.inl rfl) (HV.fa fl31_2 rfl) ?_
    refine AL.val rfl (.inl rfl) (HV.ld rfl va29 (cells_at (hc.ext X2) rfl)) ?_
    refine AL.val rfl (.inl rfl) (HV.mv rfl) ?_
    obtain ⟨p4, z5, cs6, hz7, hK8, hC9, hP10⟩ := RdK.ix (q := (i : Int)) hr sl29 (by omega) (by omega)
    obtain ⟨a11, l12, v13, n14, rfl, isl15⟩ := kG_cells hK8
    refine AL.val rfl (.inl rfl) (hP10 rfl rfl) ?_
    refine AL.w rfl (.inl rfl) (WV.call fn86 rfl (ih (Kd.ext (kG d) hK8 X2) (hC9.ext X2) (by have := szL_mem (List.mem_of_getElem? hz7); omega))) ?_
    rintro _ H16 ⟨rfl, hx17⟩
    have X18 := Ext.trans X2 hx17
    refine AL.w rfl (.inl rfl) (WV.call fn105 rfl (max_ok (W := W) a (dpG d z5 : Int))) ?_
    rintro _ H19 ⟨rfl, hx20⟩
    have X21 := Ext.trans X18 hx20
    refine AL.val rfl (.inl rfl) (HV.as rfl) ?_
    refine AL.nil ?_
    refine nrm_blk (nrm_and ?_)
    refine AW.reg ?_
    refine AL.val rfl (.inl rfl) (HV.mv rfl) ?_
    refine AL.val rfl (.inl rfl) (HV.add rfl rfl (by omega)) ?_
    refine AL.val rfl (.inl rfl) (HV.as rfl) ?_
    refine AL.nil ?_
    refine nrm_and ?_
    exact ⟨(i + 1, max a (dpG d z5 : Int)), ⟨X21, by omega, by rw [dpG_snoc (getq hz7 rfl)]; omega, trivial⟩, by first | omega | (dsimp only; omega), ⟨rfl, rfl, rfl, rfl, trivial⟩⟩
  · -- else
    refine AW.exit ?_
    refine ex_and (ex_and (ex_blk ?_))
    refine nrm_and ?_
    refine AW.rs ?_
    refine AL.val rfl (.inl rfl) (HV.mv rfl) ?_
    refine AL.val rfl (.inl rfl) (HV.add rfl rfl (by omega)) ?_
    refine AL.val rfl (.inl rfl) (HV.as rfl) ?_
    refine AL.nx ?_
    refine AW.ret ?_
    refine post_one rfl rfl ?_ (.inr rfl)
    exact ⟨congrArg (Value.int .i64) (by rw [dpG_succ]; rw [List.take_of_length_le (by omega)] at ha; omega), X2⟩

theorem l02Depth_all (d : Nat) : ∀ {p : Addr} {W : World} {H : Hp} {ok : Nat → Prop} {z : GT d} {a l : Int} {v : Value} (hK : (kG d).rd W H ok z [.int .i64 a, .int .i64 l, v]) (hc : Cells W H p [.int .i64 a, .int .i64 l, v]) (hs : szG d z ≤ 60), ACalls Try.prog W 86 #[.pointer (some p)] H (fun r H' => r = .int .i64 (dpG d z : Int) ∧ Ext H H') := by
  induction d with
  | zero => intro p W H ok z a l v hK hc hs; exact hK.elim
  | succ d ih =>
    intro p W H ok z a l v hK hc hs
    obtain ⟨h', l', ks⟩ := z
    obtain ⟨v', e, hr⟩ := kG_succ.1 hK
    simp only [List.cons.injEq, Value.int.injEq, true_and, and_true] at e
    obtain ⟨rfl, rfl, rfl⟩ := e
    exact l02Depth_of ih hr hc hs

set_option maxRecDepth 100000 in
theorem l02Form_of {d : Nat} (ih : ∀ {p : Addr} {W : World} {H : Hp} {ok : Nat → Prop} {z : GT d} {a l : Int} {v : Value} (hK : (kG d).rd W H ok z [.int .i64 a, .int .i64 l, v]) (hc : Cells W H p [.int .i64 a, .int .i64 l, v]) (n : Int) (hn : 1 ≤ n ∧ n ≤ 7), ACalls Try.prog W 87 #[.int .i64 n, .pointer (some p)] H (fun r H' => r = .bool (decide (fmG n d z)) ∧ Ext H H')) {p : Addr} {h l : Int} {v : Value} {ks : List (GT d)} {ok : Nat → Prop} (hr : RdK (kG d) W H ok v ks) (hc : Cells W H p [.int .i64 h, .int .i64 l, v]) (n : Int) (hn : 1 ≤ n ∧ n ≤ 7) : ACalls Try.prog W 87 #[.int .i64 n, .pointer (some p)] H (fun r H' => r = .bool (@decide (fmG n (d + 1) (h, l, ks)) (Classical.propDecidable _)) ∧ Ext H H') := by
  refine ACalls.of (args := [.int .i64 n, .pointer (some p)]) Try.func87 rfl rfl ?_
  have X0 := Ext.refl H
  have hmx := hr.max
  have sl29 : SlT Try.prog 29 31 (.agg #[(.int .i64 0), (.int .i64 0), (.slice none 0 0)]) (kG d).sz 40 := by rw [kG_sz]; exact sl29
  refine AW.rs ?_
  refine AL.val rfl (.inl rfl) (HV.as rfl) ?_
  refine AL.nx ?_
  refine AW.seq ?_
  refine AW.rs ?_
  refine AL.val rfl (.inl rfl) (HV.mv rfl) ?_
  refine AL.val rfl (.inl rfl) (HV.nc rfl) ?_
  refine AL.val rfl (.inl rfl) (HV.fa fl31_2 rfl) ?_
  refine AL.val rfl (.inl rfl) (HV.ld rfl va29 (cells_at hc rfl)) ?_
  refine AL.val rfl (.inl rfl) (HV.len Try.underlying29 rfl hr.isSl) ?_
  refine AL.val rfl (.inl rfl) (HV.eqi rfl rfl) ?_
  refine AL.nx ?_
  refine AW.ifd rfl (fun c1 => ?_) (fun c1 => ?_)
  · -- then
    refine AW.rs ?_
    refine AL.val rfl (.inl rfl) (HV.mv rfl) ?_
    refine AL.val rfl (.inl rfl) (HV.nc rfl) ?_
    refine AL.val rfl (.inl rfl) (HV.fa fl31_1 rfl) ?_
    refine AL.val rfl (.inl rfl) (HV.ld rfl va2 (cells_at hc rfl)) ?_
    refine AL.val rfl (.inl rfl) (HV.eqi rfl rfl) ?_
    refine AL.val rfl (.inl rfl) (HV.mv rfl) ?_
    by_cases c2 : l = 0
    · -- true
      have c2_ : decide (l = 0) = true := decide_eq_true c2
      rw [c2_]
      refine AL.val rfl (.inr ⟨_, _, _, rfl, rfl, rfl⟩) (HV.mv rfl) ?_
      refine AL.val rfl (.inr ⟨_, _, _, rfl, rfl, rfl⟩) (HV.nc rfl) ?_
      refine AL.val rfl (.inr ⟨_, _, _, rfl, rfl, rfl⟩) (HV.fa fl31_0 rfl) ?_
      refine AL.val rfl (.inr ⟨_, _, _, rfl, rfl, rfl⟩) (HV.ld rfl va2 (cells_first hc rfl)) ?_
      refine AL.val rfl (.inr ⟨_, _, _, rfl, rfl, rfl⟩) (HV.mv rfl) ?_
      refine AL.val rfl (.inr ⟨_, _, _, rfl, rfl, rfl⟩) (HV.sub rfl rfl (by omega)) ?_
      refine AL.w rfl (.inr ⟨_, _, _, rfl, rfl, rfl⟩) (WV.call fn76 rfl (l00In_ok (W := W) h 0 (n - 1))) ?_
      rintro _ H3 ⟨rfl, hx4⟩
      have X5 := Ext.trans X0 hx4
      refine AL.val rfl (.inl rfl) (HV.pickT rfl rfl) ?_
      refine AL.val rfl (.inl rfl) (HV.as rfl) ?_
      refine AL.nx ?_
      refine AW.ret ?_
      refine ret_and ?_
      refine post_one rfl rfl ?_ (.inr rfl)
      exact ⟨congrArg Value.bool (decide_eq_decide.2 (by rw [fmG_succ, if_pos (by omega)]; omega)), X5⟩
    · -- false
      have c2_ : decide (l = 0) = false := decide_eq_false c2
      rw [c2_]
      refine AL.off rfl rfl (by decide) rfl ?_
      refine AL.off rfl rfl (by decide) rfl ?_
      refine AL.off rfl rfl (by decide) rfl ?_
      refine AL.off rfl rfl (by decide) rfl ?_
      refine AL.off rfl rfl (by decide) rfl ?_
      refine AL.off rfl rfl (by decide) rfl ?_
      refine AL.off rfl rfl (by decide) rfl ?_
      refine AL.val rfl (.inl rfl) (HV.pickF rfl rfl) ?_
      refine AL.val rfl (.inl rfl) (HV.as rfl) ?_
      refine AL.nx ?_
      refine AW.ret ?_
      refine ret_and ?_
      refine post_one rfl rfl ?_ (.inr rfl)
      exact ⟨@dec_f _ (Classical.propDecidable _) (by rw [fmG_succ, if_pos (by omega)]; omega), X0⟩
  · -- else
    refine AW.skip ?_
    refine nrm_and ?_
    refine AW.seq ?_
    refine AW.rs ?_
    refine AL.val rfl (.inl rfl) (HV.as rfl) ?_
    refine AL.nx ?_
    refine AW.block ?_
    refine AW.loop (σ := Nat) (fun i => [(0, .int .i64 n), (1, .pointer (some p)), (5, .int .i64 (i : Int))]) (fun i H' => Ext H H' ∧ i ≤ ks.length ∧ (∀ (j : Nat) (z : GT d), j < i → ks[j]? = some z → fmG n d z) ∧ True) (fun i => ks.length - i) 0 ⟨X0, Nat.zero_le _, fun j z hj => absurd hj (Nat.not_lt_zero _), trivial⟩ ⟨rfl, rfl, rfl, trivial⟩ ?_
    rintro i H6 ⟨X7, hi, he, _⟩
    refine AW.seq ?_
    refine AW.rs ?_
    refine AL.val rfl (.inl rfl) (HV.mv rfl) ?_
    refine AL.val rfl (.inl rfl) (HV.mv rfl) ?_
    refine AL.val rfl (.inl rfl) (HV.nc rfl) ?_
    refine AL.val rfl (.inl rfl) (HV.fa fl31_2 rfl) ?_
    refine AL.val rfl (.inl rfl) (HV.ld rfl va29 (cells_at (hc.ext X7) rfl)) ?_
    refine AL.val rfl (.inl rfl) (HV.len Try.underlying29 rfl hr.isSl) ?_
    refine AL.val rfl (.inl rfl) (HV.lti rfl rfl) ?_
    refine AL.nx ?_
    refine AW.ifd rfl (fun c8 => ?_) (fun c8 => ?_)
    · -- then
      refine AW.skip ?_
      refine nrm_and ?_
      refine AW.seq ?_
      refine AW.block ?_
      refine AW.rs ?_
      refine AL.val rfl (.inl rfl) (HV.mv rfl) ?_
      refine AL.val rfl (.inl rfl) (HV.mv rfl) ?_
      refine AL.val rfl (.inl rfl) (HV.nc rfl) ?_
      refine AL.val rfl (.inl rfl) (HV.fa fl31_2 rfl) ?_
      refine AL.val rfl (.inl rfl) (HV.ld rfl va29 (cells_at (hc.ext X7) rfl)) ?_
      refine AL.val rfl (.inl rfl) (HV.mv rfl) ?_
      obtain ⟨p9, z10, cs11, hz12, hK13, hC14, hP15⟩ := RdK.ix (q := (i : Int)) hr sl29 (by omega) (by omega)
      obtain ⟨a16, l17, v18, n19, rfl, isl20⟩ := kG_cells hK13
      refine AL.val rfl (.inl rfl) (hP15 rfl rfl) ?_
      refine AL.w rfl (.inl rfl) (WV.call fn87 rfl (ih (Kd.ext (kG d) hK13 X7) (hC14.ext X7) n (by first | assumption | omega))) ?_
      rintro _ H21 ⟨rfl, hx22⟩
      have X23 := Ext.trans X7 hx22
      refine AL.val rfl (.inl rfl) (HV.not rfl) ?_
      refine AL.nx ?_
      refine AW.ifn rfl (fun c24 => ?_) (fun c24 => ?_)
      · -- then
        refine AW.rs ?_
        refine AL.val rfl (.inl rfl) (HV.as rfl) ?_
        refine AL.nx ?_
        refine AW.ret ?_
        refine ret_blk (ret_and (ret_and (ret_blk (ret_and ?_))))
        refine post_one rfl rfl ?_ (.inr rfl)
        exact ⟨@dec_f _ (Classical.propDecidable _) (fun q => by rw [fmG_succ, if_neg (by omega)] at q; exact c24 (q.2 _ (List.mem_of_getElem? hz12))), X23⟩
      · -- else
        refine AW.skip ?_
        refine nrm_blk (nrm_and ?_)
        refine AW.reg ?_
        refine AL.val rfl (.inl rfl) (HV.mv rfl) ?_
        refine AL.val rfl (.inl rfl) (HV.add rfl rfl (by omega)) ?_
        refine AL.val rfl (.inl rfl) (HV.as rfl) ?_
        refine AL.nil ?_
        refine nrm_and ?_
        exact ⟨i + 1, ⟨X23, by omega, fun j z hj h1 => by
      rcases Nat.lt_or_ge j i with q | q
      · exact he j z q h1
      · obtain rfl : j = i := by omega
        have ez : z = z10 := Option.some.inj (h1.symm.trans (getq hz12 rfl))
        rw [ez]; exact c24, trivial⟩, by first | omega | (dsimp only; omega), ⟨rfl, rfl, rfl, trivial⟩⟩
    · -- else
      refine AW.exit ?_
      refine ex_and (ex_and (ex_blk ?_))
      refine nrm_and ?_
      refine AW.seq ?_
      refine AW.draw' [0, 1, 3, 7, 15, 31, 63, 127, 255, 511, 63, 1087, 3135, 7231, 15423, 32767, 65535, 131071] mixed (by rfl) ?_
      refine Dr.read 0 _ 44 _ rfl rfl rfl rfl rfl (RV.of (by intro _ _ h; cases h) (.inl rfl) (fun _ xd => HV.mv rfl)) ?_
      refine Dr.read 1 _ 45 _ rfl rfl rfl rfl rfl (RV.of (by intro _ _ h; cases h) (.inl rfl) (fun _ xd => HV.nc rfl)) ?_
      refine Dr.read 2 _ 46 _ rfl rfl rfl rfl rfl (RV.of (by intro _ _ h; cases h) (.inl rfl) (fun _ xd => HV.fa fl31_0 rfl)) ?_
      refine Dr.read 3 _ 47 _ rfl rfl rfl rfl rfl (RV.of (by intro _ _ h; cases h) (.inl rfl) (fun _ xd => HV.ld rfl va2 (rdc_ext xd (cells_first (hc.ext X7) rfl)))) ?_
      refine Dr.read 4 _ 48 _ rfl rfl rfl rfl rfl (RV.of (by intro _ _ h; cases h) (.inl rfl) (fun _ xd => HV.eqi rfl rfl)) ?_
      refine Dr.read 5 _ 49 _ rfl rfl rfl rfl rfl (RV.of (by intro _ _ h; cases h) (.inl rfl) (fun _ xd => HV.mv rfl)) ?_
      by_cases c25 : h = (-1)
      · -- true
        have c25_ : decide (h = (-1)) = true := decide_eq_true c25
        rw [c25_]
        refine Dr.read 6 _ 50 _ rfl rfl rfl rfl rfl (RV.of (by intro _ _ h; cases h) (.inr ⟨_, _, _, rfl, rfl, rfl⟩) (fun _ xd => HV.mv rfl)) ?_
        refine Dr.read 7 _ 51 _ rfl rfl rfl rfl rfl (RV.of (by intro _ _ h; cases h) (.inr ⟨_, _, _, rfl, rfl, rfl⟩) (fun _ xd => HV.nc rfl)) ?_
        refine Dr.read 8 _ 52 _ rfl rfl rfl rfl rfl (RV.of (by intro _ _ h; cases h) (.inr ⟨_, _, _, rfl, rfl, rfl⟩) (fun _ xd => HV.fa fl31_1 rfl)) ?_
        refine Dr.read 9 _ 53 _ rfl rfl rfl rfl rfl (RV.of (by intro _ _ h; cases h) (.inr ⟨_, _, _, rfl, rfl, rfl⟩) (fun _ xd => HV.ld rfl va2 (rdc_ext xd (cells_at (hc.ext X7) rfl)))) ?_
        refine Dr.read 10 _ 54 _ rfl rfl rfl rfl rfl (RV.of (by intro _ _ h; cases h) (.inr ⟨_, _, _, rfl, rfl, rfl⟩) (fun _ xd => HV.mv rfl)) ?_
        refine Dr.read 11 _ 55 _ rfl rfl rfl rfl rfl (RV.of (by intro _ _ h; cases h) (.inr ⟨_, _, _, rfl, rfl, rfl⟩) (fun _ xd => HV.nc rfl)) ?_
        refine Dr.read 12 _ 56 _ rfl rfl rfl rfl rfl (RV.of (by intro _ _ h; cases h) (.inr ⟨_, _, _, rfl, rfl, rfl⟩) (fun _ xd => HV.fa fl31_2 rfl)) ?_
        refine Dr.read 13 _ 57 _ rfl rfl rfl rfl rfl (RV.of (by intro _ _ h; cases h) (.inr ⟨_, _, _, rfl, rfl, rfl⟩) (fun _ xd => HV.ld rfl va29 (rdc_ext xd (cells_at (hc.ext X7) rfl)))) ?_
        refine Dr.read 14 _ 58 _ rfl rfl rfl rfl rfl (RV.of (by intro _ _ h; cases h) (.inr ⟨_, _, _, rfl, rfl, rfl⟩) (fun _ xd => HV.len Try.underlying29 rfl hr.isSl)) ?_
        refine Dr.eff 15 _ _ rfl (by intro d h; cases h; exact ⟨rfl, rfl⟩) rfl rfl rfl (EC.of (by intro _ _ h; cases h) (.inr ⟨_, _, _, rfl, rfl, rfl⟩) (WV.call fn76 rfl (l00In_ok (W := W) l 1 (ks.length : Int)))) (fun v H' h => .inl (h.2)) ?_
        rintro _ H26 ⟨rfl, hx27⟩
        have X28 := Ext.trans X7 hx27
        refine Dr.read 16 _ 60 _ rfl rfl rfl rfl rfl (RV.of (by intro _ _ h; cases h) (.inl rfl) (fun _ xd => HV.pickT rfl rfl)) ?_
        refine Dr.read 17 _ 4 _ rfl rfl rfl rfl rfl (RV.of (by intro _ _ h; cases h) (.inl rfl) (fun _ xd => HV.as rfl)) ?_
        refine Dr.fin rfl ?_
        refine nrm_and ?_
        refine AW.ret ?_
        refine post_one rfl rfl ?_ (.inr rfl)
        exact ⟨congrArg Value.bool (decide_eq_decide.2 (by rw [fmG_succ, if_neg (by omega)]; exact ⟨fun q => ⟨⟨by omega, q⟩, fun z hz => by obtain ⟨j, hj, rfl⟩ := List.getElem_of_mem hz; exact he j _ (by omega) (List.getElem?_eq_getElem hj)⟩, fun q => q.1.2⟩)), X28⟩
      · -- false
        have c25_ : decide (h = (-1)) = false := decide_eq_false c25
        rw [c25_]
        refine Dr.read 6 _ 50 _ rfl rfl rfl rfl rfl (RV.off (by intro _ _ h; cases h) rfl rfl (by decide)) ?_
        refine Dr.read 7 _ 51 _ rfl rfl rfl rfl rfl (RV.off (by intro _ _ h; cases h) rfl rfl (by decide)) ?_
        refine Dr.read 8 _ 52 _ rfl rfl rfl rfl rfl (RV.off (by intro _ _ h; cases h) rfl rfl (by decide)) ?_
        refine Dr.read 9 _ 53 _ rfl rfl rfl rfl rfl (RV.off (by intro _ _ h; cases h) rfl rfl (by decide)) ?_
        refine Dr.read 10 _ 54 _ rfl rfl rfl rfl rfl (RV.off (by intro _ _ h; cases h) rfl rfl (by decide)) ?_
        refine Dr.read 11 _ 55 _ rfl rfl rfl rfl rfl (RV.off (by intro _ _ h; cases h) rfl rfl (by decide)) ?_
        refine Dr.read 12 _ 56 _ rfl rfl rfl rfl rfl (RV.off (by intro _ _ h; cases h) rfl rfl (by decide)) ?_
        refine Dr.read 13 _ 57 _ rfl rfl rfl rfl rfl (RV.off (by intro _ _ h; cases h) rfl rfl (by decide)) ?_
        refine Dr.read 14 _ 58 _ rfl rfl rfl rfl rfl (RV.off (by intro _ _ h; cases h) rfl rfl (by decide)) ?_
        refine Dr.read 15 _ 59 _ rfl rfl rfl rfl rfl (RV.off (by intro _ _ h; cases h) rfl rfl (by decide)) ?_
        refine Dr.read 16 _ 60 _ rfl rfl rfl rfl rfl (RV.of (by intro _ _ h; cases h) (.inl rfl) (fun _ xd => HV.pickF rfl rfl)) ?_
        refine Dr.read 17 _ 4 _ rfl rfl rfl rfl rfl (RV.of (by intro _ _ h; cases h) (.inl rfl) (fun _ xd => HV.as rfl)) ?_
        refine Dr.fin rfl ?_
        refine nrm_and ?_
        refine AW.ret ?_
        refine post_one rfl rfl ?_ (.inr rfl)
        exact ⟨@dec_f _ (Classical.propDecidable _) (fun q => by rw [fmG_succ, if_neg (by omega)] at q; have := q.1.1; omega), X7⟩

theorem l02Form_all (d : Nat) : ∀ {p : Addr} {W : World} {H : Hp} {ok : Nat → Prop} {z : GT d} {a l : Int} {v : Value} (hK : (kG d).rd W H ok z [.int .i64 a, .int .i64 l, v]) (hc : Cells W H p [.int .i64 a, .int .i64 l, v]) (n : Int) (hn : 1 ≤ n ∧ n ≤ 7), ACalls Try.prog W 87 #[.int .i64 n, .pointer (some p)] H (fun r H' => r = .bool (decide (fmG n d z)) ∧ Ext H H') := by
  induction d with
  | zero => intro p W H ok z a l v hK hc n hn; exact hK.elim
  | succ d ih =>
    intro p W H ok z a l v hK hc n hn
    obtain ⟨h', l', ks⟩ := z
    obtain ⟨v', e, hr⟩ := kG_succ.1 hK
    simp only [List.cons.injEq, Value.int.injEq, true_and, and_true] at e
    obtain ⟨rfl, rfl, rfl⟩ := e
    exact l02Form_of ih hr hc n hn

theorem bitZ_i {q : Nat} {h : Int} (hq : q < 128) (hh : 0 ≤ h ∧ h ≤ 6) : bt .and .i64 ((q : Int).fdiv (2 ^ min (IntKind.u64.wrap h : Int).toNat IntKind.i64.bits)) 1 = 1 ↔ q / 2 ^ h.toNat % 2 = 1 := by
  obtain ⟨j, rfl⟩ := Int.eq_ofNat_of_zero_le hh.1
  rw [shr_i q (by omega), bit_of (.inl rfl) hq, Int.toNat_natCast]
  omega
theorem hasZ_ok (s : Nat) (h : Int) (hs : s < 128) (hh : 0 ≤ h ∧ h ≤ 6) : ACalls Try.prog W 66 #[.int .u64 (s : Int), .int .i64 h] H (fun r H' => r = .bool (decide (s / 2 ^ h.toNat % 2 = 1)) ∧ Ext H H') := by
  obtain ⟨j, rfl⟩ := Int.eq_ofNat_of_zero_le hh.1
  exact has_ok s j hs (by omega)

set_option maxRecDepth 100000 in
theorem l02Open_of {d : Nat} (ih : ∀ {p : Addr} {W : World} {H : Hp} {ok : Nat → Prop} {z : GT d} {a l : Int} {v : Value} (hK : (kG d).rd W H ok z [.int .i64 a, .int .i64 l, v]) (hc : Cells W H p [.int .i64 a, .int .i64 l, v]) (n : Int) (q : Nat) (hn : 1 ≤ n ∧ n ≤ 7) (hq : q < 128) (hf : fmG n d z), ACalls Try.prog W 51 #[.pointer (some p), .int .i64 (q : Int)] H (fun r H' => r = .bool (decide (opG q d z)) ∧ Ext H H')) {p : Addr} {h l : Int} {v : Value} {ks : List (GT d)} {ok : Nat → Prop} (hr : RdK (kG d) W H ok v ks) (hc : Cells W H p [.int .i64 h, .int .i64 l, v]) (n : Int) (q : Nat) (hn : 1 ≤ n ∧ n ≤ 7) (hq : q < 128) (hf : fmG n (d + 1) (h, l, ks)) : ACalls Try.prog W 51 #[.pointer (some p), .int .i64 (q : Int)] H (fun r H' => r = .bool (@decide (opG q (d + 1) (h, l, ks)) (Classical.propDecidable _)) ∧ Ext H H') := by
  refine ACalls.of (args := [.pointer (some p), .int .i64 (q : Int)]) Try.func51 rfl rfl ?_
  have X0 := Ext.refl H
  have hmx := hr.max
  have sl29 : SlT Try.prog 29 31 (.agg #[(.int .i64 0), (.int .i64 0), (.slice none 0 0)]) (kG d).sz 40 := by rw [kG_sz]; exact sl29
  refine AW.rs ?_
  refine AL.val rfl (.inl rfl) (HV.as rfl) ?_
  refine AL.nx ?_
  refine AW.seq ?_
  refine AW.rs ?_
  refine AL.val rfl (.inl rfl) (HV.mv rfl) ?_
  refine AL.val rfl (.inl rfl) (HV.nc rfl) ?_
  refine AL.val rfl (.inl rfl) (HV.fa fl31_2 rfl) ?_
  refine AL.val rfl (.inl rfl) (HV.ld rfl va29 (cells_at hc rfl)) ?_
  refine AL.val rfl (.inl rfl) (HV.len Try.underlying29 rfl hr.isSl) ?_
  refine AL.val rfl (.inl rfl) (HV.eqi rfl rfl) ?_
  refine AL.nx ?_
  refine AW.ifd rfl (fun c1 => ?_) (fun c1 => ?_)
  · -- then
    refine AW.rs ?_
    refine AL.val rfl (.inl rfl) (HV.mv rfl) ?_
    refine AL.val rfl (.inl rfl) (HV.mv rfl) ?_
    refine AL.val rfl (.inl rfl) (HV.nc rfl) ?_
    refine AL.val rfl (.inl rfl) (HV.fa fl31_0 rfl) ?_
    refine AL.val rfl (.inl rfl) (HV.ld rfl va2 (cells_first hc rfl)) ?_
    refine AL.val rfl (.inl rfl) (HV.cv (by rw [Try.underlying2]; rfl) Try.underlying75 rfl) ?_
    refine AL.val rfl (.inl rfl) (HV.shr rfl rfl (u64_nonneg _)) ?_
    refine AL.val rfl (.inl rfl) (HV.bits (by simp) rfl rfl) ?_
    refine AL.val rfl (.inl rfl) (HV.eqi rfl rfl) ?_
    refine AL.val rfl (.inl rfl) (HV.as rfl) ?_
    refine AL.nx ?_
    refine AW.ret ?_
    refine ret_and ?_
    refine post_one rfl rfl ?_ (.inr rfl)
    exact ⟨congrArg Value.bool (decide_eq_decide.2 (by rw [opG_succ, if_pos (by omega)]; exact bitZ_i hq (by rw [fmG_succ, if_pos (by omega)] at hf; omega))), X0⟩
  · -- else
    refine AW.skip ?_
    refine nrm_and ?_
    refine AW.rs ?_
    refine AL.val rfl (.inl rfl) (HV.as rfl) ?_
    refine AL.nx ?_
    refine AW.seq ?_
    refine AW.rs ?_
    refine AL.val rfl (.inl rfl) (HV.as rfl) ?_
    refine AL.nx ?_
    refine AW.block ?_
    refine AW.loop (σ := Nat × Int) (fun ⟨i, a⟩ => [(0, .pointer (some p)), (1, .int .i64 (q : Int)), (4, .bool false), (5, .int .i64 a), (6, .int .i64 (i : Int))]) (fun ⟨i, a⟩ H' => Ext H H' ∧ i ≤ ks.length ∧ a = (opN_ q d (ks.take i) : Int) ∧ True) (fun ⟨i, a⟩ => ks.length - i) (0, 0) ⟨X0, Nat.zero_le _, rfl, trivial⟩ ⟨rfl, rfl, rfl, rfl, rfl, trivial⟩ ?_
    rintro ⟨i, a⟩ H2 ⟨X3, hi, ha, _⟩
    have hmm := opN_le q d (ks.take i)
    rw [List.length_take] at hmm
    refine AW.seq ?_
    refine AW.rs ?_
    refine AL.val rfl (.inl rfl) (HV.mv rfl) ?_
    refine AL.val rfl (.inl rfl) (HV.mv rfl) ?_
    refine AL.val rfl (.inl rfl) (HV.nc rfl) ?_
    refine AL.val rfl (.inl rfl) (HV.fa fl31_2 rfl) ?_
    refine AL.val rfl (.inl rfl) (HV.ld rfl va29 (cells_at (hc.ext X3) rfl)) ?_
    refine AL.val rfl (.inl rfl) (HV.len Try.underlying29 rfl hr.isSl) ?_
    refine AL.val rfl (.inl rfl) (HV.lti rfl rfl) ?_
    refine AL.nx ?_
    refine AW.ifd rfl (fun c4 => ?_) (fun c4 => ?_)
    · -- then
      refine AW.skip ?_
      refine nrm_and ?_
      refine AW.seq ?_
      refine AW.block ?_
      refine AW.rs ?_
      refine AL.val rfl (.inl rfl) (HV.mv rfl) ?_
      refine AL.val rfl (.inl rfl) (HV.nc rfl) ?_
      refine AL.val rfl (.inl rfl) (HV.fa fl31_2 rfl) ?_
      refine AL.val rfl (.inl rfl) (HV.ld rfl va29 (cells_at (hc.ext X3) rfl)) ?_
      refine AL.val rfl (.inl rfl) (HV.mv rfl) ?_
      obtain ⟨p5, z6, cs7, hz8, hK9, hC10, hP11⟩ := RdK.ix (q := (i : Int)) hr sl29 (by omega) (by omega)
      obtain ⟨a12, l13, v14, n15, rfl, isl16⟩ := kG_cells hK9
      refine AL.val rfl (.inl rfl) (hP11 rfl rfl) ?_
      refine AL.val rfl (.inl rfl) (HV.mv rfl) ?_
      refine AL.w rfl (.inl rfl) (WV.call fn51 rfl (ih (Kd.ext (kG d) hK9 X3) (hC10.ext X3) n q hn hq (by rw [fmG_succ, if_neg (by omega)] at hf; exact hf.2 _ (List.mem_of_getElem? hz8)))) ?_
      rintro _ H17 ⟨rfl, hx18⟩
      have X19 := Ext.trans X3 hx18
      refine AL.nx ?_
      refine AW.ifd rfl (fun c20 => ?_) (fun c20 => ?_)
      · -- then
        refine AW.reg ?_
        refine AL.val rfl (.inl rfl) (HV.mv rfl) ?_
        refine AL.val rfl (.inl rfl) (HV.add rfl rfl (by omega)) ?_
        refine AL.val rfl (.inl rfl) (HV.as rfl) ?_
        refine AL.nil ?_
        refine nrm_blk (nrm_and ?_)
        refine AW.reg ?_
        refine AL.val rfl (.inl rfl) (HV.mv rfl) ?_
        refine AL.val rfl (.inl rfl) (HV.add rfl rfl (by omega)) ?_
        refine AL.val rfl (.inl rfl) (HV.as rfl) ?_
        refine AL.nil ?_
        refine nrm_and ?_
        exact ⟨(i + 1, a + 1), ⟨X19, by omega, by rw [opN_snoc (getq hz8 rfl)]; first | rw [if_pos (by assumption)]; omega | rw [if_neg (by assumption)]; omega, trivial⟩, by first | omega | (dsimp only; omega), ⟨rfl, rfl, rfl, rfl, rfl, trivial⟩⟩
      · -- else
        refine AW.skip ?_
        refine nrm_blk (nrm_and ?_)
        refine AW.reg ?_
        refine AL.val rfl (.inl rfl) (HV.mv rfl) ?_
        refine AL.val rfl (.inl rfl) (HV.add rfl rfl (by omega)) ?_
        refine AL.val rfl (.inl rfl) (HV.as rfl) ?_
        refine AL.nil ?_
        refine nrm_and ?_
        exact ⟨(i + 1, a), ⟨X19, by omega, by rw [opN_snoc (getq hz8 rfl)]; first | rw [if_pos (by assumption)]; omega | rw [if_neg (by assumption)]; omega, trivial⟩, by first | omega | (dsimp only; omega), ⟨rfl, rfl, rfl, rfl, rfl, trivial⟩⟩
    · -- else
      refine AW.exit ?_
      refine ex_and (ex_and (ex_blk ?_))
      refine nrm_and ?_
      refine AW.rs ?_
      refine AL.val rfl (.inl rfl) (HV.mv rfl) ?_
      refine AL.val rfl (.inl rfl) (HV.mv rfl) ?_
      refine AL.val rfl (.inl rfl) (HV.nc rfl) ?_
      refine AL.val rfl (.inl rfl) (HV.fa fl31_1 rfl) ?_
      refine AL.val rfl (.inl rfl) (HV.ld rfl va2 (cells_at (hc.ext X3) rfl)) ?_
      refine AL.val rfl (.inl rfl) (HV.gei rfl rfl) ?_
      refine AL.val rfl (.inl rfl) (HV.as rfl) ?_
      refine AL.nx ?_
      refine AW.ret ?_
      refine post_one rfl rfl ?_ (.inr rfl)
      exact ⟨congrArg Value.bool (decide_eq_decide.2 (by rw [opG_succ, if_neg (by omega)]; rw [List.take_of_length_le (by omega)] at ha; omega)), X3⟩

theorem l02Open_all (d : Nat) : ∀ {p : Addr} {W : World} {H : Hp} {ok : Nat → Prop} {z : GT d} {a l : Int} {v : Value} (hK : (kG d).rd W H ok z [.int .i64 a, .int .i64 l, v]) (hc : Cells W H p [.int .i64 a, .int .i64 l, v]) (n : Int) (q : Nat) (hn : 1 ≤ n ∧ n ≤ 7) (hq : q < 128) (hf : fmG n d z), ACalls Try.prog W 51 #[.pointer (some p), .int .i64 (q : Int)] H (fun r H' => r = .bool (decide (opG q d z)) ∧ Ext H H') := by
  induction d with
  | zero => intro p W H ok z a l v hK hc n q hn hq hf; exact hK.elim
  | succ d ih =>
    intro p W H ok z a l v hK hc n q hn hq hf
    obtain ⟨h', l', ks⟩ := z
    obtain ⟨v', e, hr⟩ := kG_succ.1 hK
    simp only [List.cons.injEq, Value.int.injEq, true_and, and_true] at e
    obtain ⟨rfl, rfl, rfl⟩ := e
    exact l02Open_of ih hr hc n q hn hq hf

set_option maxRecDepth 100000 in
theorem isLeaf_ok {d : Nat} {h l : Int} {v : Value} {ks : List (GT d)} {ok : Nat → Prop} (hr : RdK (kG d) W H ok v ks) : ACalls Try.prog W 91 #[.agg #[.int .i64 h, .int .i64 l, v]] H (fun r H' => r = .bool (decide ((ks.length : Int) = 0)) ∧ Ext H H') := by
  refine ACalls.of (args := [.agg #[.int .i64 h, .int .i64 l, v]]) Try.func91 rfl rfl ?_
  have X0 := Ext.refl H
  have hm1 := hr.max
  refine AW.rs ?_
  refine AL.w rfl (.inl rfl) (WV.bx rfl rfl) ?_
  rintro _ H3 ⟨b2, rfl, hx4, hn5, hb6⟩
  have o7 := Nat.le_trans X0.bd hn5
  have X8 := Ext.trans X0 hx4
  have X9 := Ext.refl H3
  refine AL.val rfl (.inl rfl) (HV.as rfl) ?_
  refine AL.nx ?_
  refine AW.rs ?_
  refine AL.val rfl (.inl rfl) (HV.fa fl31_2 rfl) ?_
  refine AL.val rfl (.inl rfl) (HV.ld rfl va29 (at_cell_add hb6 rfl)) ?_
  refine AL.val rfl (.inl rfl) (HV.len Try.underlying29 rfl hr.isSl) ?_
  refine AL.val rfl (.inl rfl) (HV.eqi rfl rfl) ?_
  refine AL.val rfl (.inl rfl) (HV.as rfl) ?_
  refine AL.nx ?_
  refine AW.ret ?_
  refine post_one rfl rfl ?_ (.inr rfl)
  exact ⟨rfl, X8⟩

set_option maxRecDepth 100000 in
theorem GateSize_of {d : Nat} (ih : ∀ {W : World} {H : Hp} {ok : Nat → Prop} {z : GT d} {a l : Int} {v : Value} (hK : (kG d).rd W H ok z [.int .i64 a, .int .i64 l, v]) (hs : szG d z ≤ 2000000), ACalls Try.prog W 90 #[.agg #[.int .i64 a, .int .i64 l, v]] H (fun r H' => r = .int .i64 (szG d z : Int) ∧ Ext H H')) {h l : Int} {v : Value} {ks : List (GT d)} {ok : Nat → Prop} (hr : RdK (kG d) W H ok v ks) (hs : szG (d + 1) (h, l, ks) ≤ 2000000) : ACalls Try.prog W 90 #[.agg #[.int .i64 h, .int .i64 l, v]] H (fun r H' => r = .int .i64 (szG (d + 1) (h, l, ks) : Int) ∧ Ext H H') := by
  refine ACalls.of (args := [.agg #[.int .i64 h, .int .i64 l, v]]) Try.func90 rfl rfl ?_
  have X0 := Ext.refl H
  have hm1 := hr.max
  have sl29 : SlT Try.prog 29 31 (.agg #[(.int .i64 0), (.int .i64 0), (.slice none 0 0)]) (kG d).sz 40 := by rw [kG_sz]; exact sl29
  rw [szG_succ] at hs
  refine AW.rs ?_
  refine AL.w rfl (.inl rfl) (WV.bx rfl rfl) ?_
  rintro _ H3 ⟨b2, rfl, hx4, hn5, hb6⟩
  have o7 := Nat.le_trans X0.bd hn5
  have X8 := Ext.trans X0 hx4
  have X9 := Ext.refl H3
  refine AL.val rfl (.inl rfl) (HV.as rfl) ?_
  refine AL.nx ?_
  refine AW.rs ?_
  refine AL.val rfl (.inl rfl) (HV.as rfl) ?_
  refine AL.nx ?_
  refine AW.seq ?_
  refine AW.rs ?_
  refine AL.val rfl (.inl rfl) (HV.fa fl31_2 rfl) ?_
  refine AL.val rfl (.inl rfl) (HV.ld rfl va29 (at_cell_add hb6 rfl)) ?_
  refine AL.val rfl (.inl rfl) (HV.len Try.underlying29 rfl hr.isSl) ?_
  refine AL.val rfl (.inl rfl) (HV.mv rfl) ?_
  refine AL.nx ?_
  refine AW.block ?_
  refine AW.loop (σ := Nat × Int) (fun ⟨i, a⟩ => [(2, .int .i64 0), (7, v), (8, .int .i64 (ks.length : Int)), (3, .int .i64 a), (9, .int .i64 (i : Int))]) (fun ⟨i, a⟩ H' => Ext H H' ∧ Ext H3 H' ∧ At W H' b2 ⟨31, [.int .i64 h, .int .i64 l, v], 3⟩ ∧ i ≤ ks.length ∧ a = 1 + (szL d (ks.take i) : Int) ∧ True) (fun ⟨i, a⟩ => ks.length - i) (0, 1) ⟨X8, X9, hb6, Nat.zero_le _, rfl, trivial⟩ ⟨rfl, rfl, rfl, rfl, rfl, trivial⟩ ?_
  rintro ⟨i, a⟩ H10 ⟨X11, X12, hb13, hi, ha, _⟩
  have hmm := szL_take ks i (d := d)
  refine AW.rs ?_
  refine AL.val rfl (.inl rfl) (HV.lti rfl rfl) ?_
  refine AL.nx ?_
  refine AW.seq ?_
  refine AW.ifd rfl (fun c14 => ?_) (fun c14 => ?_)
  · -- then
    refine AW.skip ?_
    refine nrm_and ?_
    refine AW.seq ?_
    refine AW.block ?_
    refine AW.rs ?_
    obtain ⟨p15, z16, cs17, hz18, hK19, hC20, hP21⟩ := RdK.ix (q := (i : Int)) hr sl29 (by omega) (by omega)
    obtain ⟨a22, l23, v24, n25, rfl, isl26⟩ := kG_cells hK19
    refine AL.val rfl (.inl rfl) (hP21 rfl rfl) ?_
    refine AL.val rfl (.inl rfl) (HV.lda (cs := [.int .i64 a22, .int .i64 l23, v24]) rfl va31 (hC20.ext X11)) ?_
    refine AL.w rfl (.inl rfl) (WV.al ze31 rfl) ?_
    rintro _ H28 ⟨b27, rfl, hx29, hn30, hb31⟩
    have o32 := Nat.le_trans X11.bd hn30
    have o33 := Nat.le_trans X12.bd hn30
    have ne34 : b2 ≠ b27 := by have := hb13.lt; omega
    have X35 := Ext.trans X11 hx29
    have X36 := Ext.trans X12 hx29
    have hb37 := hb13.ext hx29
    have X38 := Ext.refl H28
    refine AL.w0 (.inl rfl) (WV.st rfl rfl va31 rfl hb31 (Nat.le_of_ble_eq_true rfl) (one_cons rfl (one_cons rfl (one_cons (sl_one1 (isl26.ext X35).isSl) one_nil)))) ?_
    rintro _ H39 ⟨hx40, hb41⟩
    have X42 := Ext.thru X35 hx40 (fun z_ hz_ => by rw [hz_]; exact o32)
    have X43 := Ext.thru X36 hx40 (fun z_ hz_ => by rw [hz_]; exact o33)
    have hb45 := hb37.but hx40 ne34
    have hb46 : At W H39 b27 ⟨31, [.int .i64 a22, .int .i64 l23, v24], 3⟩ := hb41
    refine AL.nx ?_
    refine AW.reg ?_
    refine AL.val rfl (.inl rfl) (HV.mv rfl) ?_
    refine AL.val rfl (.inl rfl) (HV.lda (cs := [.int .i64 a22, .int .i64 l23, v24]) rfl va31 (at_cells hb46 rfl)) ?_
    refine AL.w rfl (.inl rfl) (WV.call fn90 rfl (ih (Kd.ext (kG d) hK19 X42) (by have := szL_mem (List.mem_of_getElem? hz18); omega))) ?_
    rintro _ H47 ⟨rfl, hx48⟩
    have X49 := Ext.trans X42 hx48
    have X50 := Ext.trans X43 hx48
    have hb51 := hb45.ext hx48
    have hb52 := hb46.ext hx48
    refine AL.val rfl (.inl rfl) (HV.add rfl rfl (by have h9 := szL_snoc (getq hz18 rfl); have h8 := szL_take ks (i + 1) (d := d); omega)) ?_
    refine AL.val rfl (.inl rfl) (HV.as rfl) ?_
    refine AL.nil ?_
    refine nrm_blk (nrm_and ?_)
    refine AW.reg ?_
    refine AL.val rfl (.inl rfl) (HV.add rfl rfl (by omega)) ?_
    refine AL.val rfl (.inl rfl) (HV.mv rfl) ?_
    refine AL.nil ?_
    refine nrm_and ?_
    exact ⟨(i + 1, a + (szG d z16 : Int)), ⟨X49, X50, hb51, by omega, by rw [szL_snoc (getq hz18 rfl)]; omega, trivial⟩, by first | omega | (dsimp only; omega), ⟨rfl, rfl, rfl, rfl, rfl, trivial⟩⟩
  · -- else
    refine AW.exit ?_
    refine ex_and (ex_and (ex_blk ?_))
    refine nrm_and ?_
    refine AW.rs ?_
    refine AL.val rfl (.inl rfl) (HV.mv rfl) ?_
    refine AL.val rfl (.inl rfl) (HV.as rfl) ?_
    refine AL.nx ?_
    refine AW.ret ?_
    refine post_one rfl rfl ?_ (.inr rfl)
    exact ⟨congrArg (Value.int .i64) (by rw [szG_succ]; rw [List.take_of_length_le (by omega)] at ha; omega), X11⟩

theorem GateSize_all (d : Nat) : ∀ {W : World} {H : Hp} {ok : Nat → Prop} {z : GT d} {a l : Int} {v : Value} (hK : (kG d).rd W H ok z [.int .i64 a, .int .i64 l, v]) (hs : szG d z ≤ 2000000), ACalls Try.prog W 90 #[.agg #[.int .i64 a, .int .i64 l, v]] H (fun r H' => r = .int .i64 (szG d z : Int) ∧ Ext H H') := by
  induction d with
  | zero => intro W H ok z a l v hK hs; exact hK.elim
  | succ d ih =>
    intro W H ok z a l v hK hs
    obtain ⟨h', l', ks⟩ := z
    obtain ⟨v', e, hr⟩ := kG_succ.1 hK
    simp only [List.cons.injEq, Value.int.injEq, true_and, and_true] at e
    obtain ⟨rfl, rfl, rfl⟩ := e
    exact GateSize_of ih hr hs

set_option maxRecDepth 100000 in
theorem iopens_of {d : Nat} (ih : ∀ {W : World} {H : Hp} {ok : Nat → Prop} {z : GT d} {a l : Int} {v : Value} (hK : (kG d).rd W H ok z [.int .i64 a, .int .i64 l, v]) (n : Int) (q : Nat) (hn : 1 ≤ n ∧ n ≤ 7) (hq : q < 128) (hf : fmG n d z), ACalls Try.prog W 56 #[.agg #[.int .i64 a, .int .i64 l, v], .int .u64 (q : Int)] H (fun r H' => r = .bool (decide (opG q d z)) ∧ Ext H H')) {h l : Int} {v : Value} {ks : List (GT d)} {ok : Nat → Prop} (hr : RdK (kG d) W H ok v ks) (n : Int) (q : Nat) (hn : 1 ≤ n ∧ n ≤ 7) (hq : q < 128) (hf : fmG n (d + 1) (h, l, ks)) : ACalls Try.prog W 56 #[.agg #[.int .i64 h, .int .i64 l, v], .int .u64 (q : Int)] H (fun r H' => r = .bool (@decide (opG q (d + 1) (h, l, ks)) (Classical.propDecidable _)) ∧ Ext H H') := by
  refine ACalls.of (args := [.agg #[.int .i64 h, .int .i64 l, v], .int .u64 (q : Int)]) Try.func56 rfl rfl ?_
  have X0 := Ext.refl H
  have hm1 := hr.max
  have sl29 : SlT Try.prog 29 31 (.agg #[(.int .i64 0), (.int .i64 0), (.slice none 0 0)]) (kG d).sz 40 := by rw [kG_sz]; exact sl29
  refine AW.rs ?_
  refine AL.w rfl (.inl rfl) (WV.bx rfl rfl) ?_
  rintro _ H3 ⟨b2, rfl, hx4, hn5, hb6⟩
  have o7 := Nat.le_trans X0.bd hn5
  have X8 := Ext.trans X0 hx4
  have X9 := Ext.refl H3
  refine AL.val rfl (.inl rfl) (HV.as rfl) ?_
  refine AL.nx ?_
  refine AW.seq ?_
  refine AW.rs ?_
  refine AL.val rfl (.inl rfl) (HV.lda (cs := [.int .i64 h, .int .i64 l, v]) rfl va31 (at_cells hb6 rfl)) ?_
  refine AL.w rfl (.inl rfl) (WV.call fn91 rfl (isLeaf_ok (hr.ext X8))) ?_
  rintro _ H10 ⟨rfl, hx11⟩
  have X12 := Ext.trans X8 hx11
  have X13 := Ext.trans X9 hx11
  have hb14 := hb6.ext hx11
  refine AL.nx ?_
  refine AW.ifd rfl (fun c15 => ?_) (fun c15 => ?_)
  · -- then
    refine AW.rs ?_
    refine AL.val rfl (.inl rfl) (HV.mv rfl) ?_
    refine AL.val rfl (.inl rfl) (HV.fa fl31_0 rfl) ?_
    refine AL.val rfl (.inl rfl) (HV.ld rfl va2 (at_cell hb14 rfl)) ?_
    refine AL.w rfl (.inl rfl) (WV.call fn66 rfl (hasZ_ok q h hq (by rw [fmG_succ, if_pos (by omega)] at hf; omega))) ?_
    rintro _ H16 ⟨rfl, hx17⟩
    have X18 := Ext.trans X12 hx17
    have X19 := Ext.trans X13 hx17
    have hb20 := hb14.ext hx17
    refine AL.val rfl (.inl rfl) (HV.as rfl) ?_
    refine AL.nx ?_
    refine AW.ret ?_
    refine ret_and ?_
    refine post_one rfl rfl ?_ (.inr rfl)
    exact ⟨congrArg Value.bool (decide_eq_decide.2 (by rw [opG_succ, if_pos (by omega)])), X18⟩
  · -- else
    refine AW.skip ?_
    refine nrm_and ?_
    refine AW.rs ?_
    refine AL.val rfl (.inl rfl) (HV.as rfl) ?_
    refine AL.nx ?_
    refine AW.seq ?_
    refine AW.rs ?_
    refine AL.val rfl (.inl rfl) (HV.fa fl31_2 rfl) ?_
    refine AL.val rfl (.inl rfl) (HV.ld rfl va29 (at_cell_add hb14 rfl)) ?_
    refine AL.val rfl (.inl rfl) (HV.len Try.underlying29 rfl hr.isSl) ?_
    refine AL.val rfl (.inl rfl) (HV.mv rfl) ?_
    refine AL.nx ?_
    refine AW.block ?_
    have X21 := Ext.refl H10
    refine AW.loop (σ := Nat × Int) (fun ⟨i, a⟩ => [(1, .int .u64 (q : Int)), (2, .pointer (some ⟨b2, 0, none⟩)), (4, .bool false), (15, v), (16, .int .i64 (ks.length : Int)), (5, .int .i64 a), (17, .int .i64 (i : Int))]) (fun ⟨i, a⟩ H' => Ext H H' ∧ Ext H3 H' ∧ Ext H10 H' ∧ At W H' b2 ⟨31, [.int .i64 h, .int .i64 l, v], 3⟩ ∧ i ≤ ks.length ∧ a = (opN_ q d (ks.take i) : Int) ∧ True) (fun ⟨i, a⟩ => ks.length - i) (0, 0) ⟨X12, X13, X21, hb14, Nat.zero_le _, rfl, trivial⟩ ⟨rfl, rfl, rfl, rfl, rfl, rfl, rfl, trivial⟩ ?_
    rintro ⟨i, a⟩ H22 ⟨X23, X24, X25, hb26, hi, ha, _⟩
    have hmm := opN_le q d (ks.take i)
    rw [List.length_take] at hmm
    refine AW.rs ?_
    refine AL.val rfl (.inl rfl) (HV.lti rfl rfl) ?_
    refine AL.nx ?_
    refine AW.seq ?_
    refine AW.ifd rfl (fun c27 => ?_) (fun c27 => ?_)
    · -- then
      refine AW.skip ?_
      refine nrm_and ?_
      refine AW.seq ?_
      refine AW.block ?_
      refine AW.rs ?_
      obtain ⟨p28, z29, cs30, hz31, hK32, hC33, hP34⟩ := RdK.ix (q := (i : Int)) hr sl29 (by omega) (by omega)
      obtain ⟨a35, l36, v37, n38, rfl, isl39⟩ := kG_cells hK32
      refine AL.val rfl (.inl rfl) (hP34 rfl rfl) ?_
      refine AL.val rfl (.inl rfl) (HV.lda (cs := [.int .i64 a35, .int .i64 l36, v37]) rfl va31 (hC33.ext X23)) ?_
      refine AL.w rfl (.inl rfl) (WV.al ze31 rfl) ?_
      rintro _ H41 ⟨b40, rfl, hx42, hn43, hb44⟩
      have o45 := Nat.le_trans X23.bd hn43
      have o46 := Nat.le_trans X24.bd hn43
      have o47 := Nat.le_trans X25.bd hn43
      have ne48 : b2 ≠ b40 := by have := hb26.lt; omega
      have X49 := Ext.trans X23 hx42
      have X50 := Ext.trans X24 hx42
      have X51 := Ext.trans X25 hx42
      have hb52 := hb26.ext hx42
      have X53 := Ext.refl H41
      refine AL.w0 (.inl rfl) (WV.st rfl rfl va31 rfl hb44 (Nat.le_of_ble_eq_true rfl) (one_cons rfl (one_cons rfl (one_cons (sl_one1 (isl39.ext X49).isSl) one_nil)))) ?_
      rintro _ H54 ⟨hx55, hb56⟩
      have X57 := Ext.thru X49 hx55 (fun z_ hz_ => by rw [hz_]; exact o45)
      have X58 := Ext.thru X50 hx55 (fun z_ hz_ => by rw [hz_]; exact o46)
      have X59 := Ext.thru X51 hx55 (fun z_ hz_ => by rw [hz_]; exact o47)
      have hb61 := hb52.but hx55 ne48
      have hb62 : At W H54 b40 ⟨31, [.int .i64 a35, .int .i64 l36, v37], 3⟩ := hb56
      refine AL.nx ?_
      refine AW.rs ?_
      refine AL.val rfl (.inl rfl) (HV.lda (cs := [.int .i64 a35, .int .i64 l36, v37]) rfl va31 (at_cells hb62 rfl)) ?_
      refine AL.val rfl (.inl rfl) (HV.mv rfl) ?_
      refine AL.w rfl (.inl rfl) (WV.call fn56 rfl (ih (Kd.ext (kG d) hK32 X57) n q hn hq (by rw [fmG_succ, if_neg (by omega)] at hf; exact hf.2 _ (List.mem_of_getElem? hz31)))) ?_
      rintro _ H63 ⟨rfl, hx64⟩
      have X65 := Ext.trans X57 hx64
      have X66 := Ext.trans X58 hx64
      have X67 := Ext.trans X59 hx64
      have hb68 := hb61.ext hx64
      have hb69 := hb62.ext hx64
      refine AL.nx ?_
      refine AW.ifd rfl (fun c70 => ?_) (fun c70 => ?_)
      · -- then
        refine AW.reg ?_
        refine AL.val rfl (.inl rfl) (HV.mv rfl) ?_
        refine AL.val rfl (.inl rfl) (HV.add rfl rfl (by omega)) ?_
        refine AL.val rfl (.inl rfl) (HV.as rfl) ?_
        refine AL.nil ?_
        refine nrm_blk (nrm_and ?_)
        refine AW.reg ?_
        refine AL.val rfl (.inl rfl) (HV.add rfl rfl (by omega)) ?_
        refine AL.val rfl (.inl rfl) (HV.mv rfl) ?_
        refine AL.nil ?_
        refine nrm_and ?_
        exact ⟨(i + 1, a + 1), ⟨X65, X66, X67, hb68, by omega, by rw [opN_snoc (getq hz31 rfl)]; first | rw [if_pos (by assumption)]; omega | rw [if_neg (by assumption)]; omega, trivial⟩, by first | omega | (dsimp only; omega), ⟨rfl, rfl, rfl, rfl, rfl, rfl, rfl, trivial⟩⟩
      · -- else
        refine AW.skip ?_
        refine nrm_blk (nrm_and ?_)
        refine AW.reg ?_
        refine AL.val rfl (.inl rfl) (HV.add rfl rfl (by omega)) ?_
        refine AL.val rfl (.inl rfl) (HV.mv rfl) ?_
        refine AL.nil ?_
        refine nrm_and ?_
        exact ⟨(i + 1, a), ⟨X65, X66, X67, hb68, by omega, by rw [opN_snoc (getq hz31 rfl)]; first | rw [if_pos (by assumption)]; omega | rw [if_neg (by assumption)]; omega, trivial⟩, by first | omega | (dsimp only; omega), ⟨rfl, rfl, rfl, rfl, rfl, rfl, rfl, trivial⟩⟩
    · -- else
      refine AW.exit ?_
      refine ex_and (ex_and (ex_blk ?_))
      refine nrm_and ?_
      refine AW.rs ?_
      refine AL.val rfl (.inl rfl) (HV.mv rfl) ?_
      refine AL.val rfl (.inl rfl) (HV.fa fl31_1 rfl) ?_
      refine AL.val rfl (.inl rfl) (HV.ld rfl va2 (at_cell_add hb26 rfl)) ?_
      refine AL.val rfl (.inl rfl) (HV.gei rfl rfl) ?_
      refine AL.val rfl (.inl rfl) (HV.as rfl) ?_
      refine AL.nx ?_
      refine AW.ret ?_
      refine post_one rfl rfl ?_ (.inr rfl)
      exact ⟨congrArg Value.bool (decide_eq_decide.2 (by rw [opG_succ, if_neg (by omega)]; rw [List.take_of_length_le (by omega)] at ha; omega)), X23⟩

theorem iopens_all (d : Nat) : ∀ {W : World} {H : Hp} {ok : Nat → Prop} {z : GT d} {a l : Int} {v : Value} (hK : (kG d).rd W H ok z [.int .i64 a, .int .i64 l, v]) (n : Int) (q : Nat) (hn : 1 ≤ n ∧ n ≤ 7) (hq : q < 128) (hf : fmG n d z), ACalls Try.prog W 56 #[.agg #[.int .i64 a, .int .i64 l, v], .int .u64 (q : Int)] H (fun r H' => r = .bool (decide (opG q d z)) ∧ Ext H H') := by
  induction d with
  | zero => intro W H ok z a l v hK n q hn hq hf; exact hK.elim
  | succ d ih =>
    intro W H ok z a l v hK n q hn hq hf
    obtain ⟨h', l', ks⟩ := z
    obtain ⟨v', e, hr⟩ := kG_succ.1 hK
    simp only [List.cons.injEq, Value.int.injEq, true_and, and_true] at e
    obtain ⟨rfl, rfl, rfl⟩ := e
    exact iopens_of ih hr n q hn hq hf

set_option maxRecDepth 100000 in
theorem fm1_ok {d : Nat} (ih : ∀ {W : World} {H : Hp} {ok : Nat → Prop} {z : GT d} {a l : Int} {v : Value} (hK : (kG d).rd W H ok z [.int .i64 a, .int .i64 l, v]) (n : Int) (k : Nat) (hn : 1 ≤ n ∧ n ≤ 7) (hk : k ≤ 12), ACalls Try.prog W 89 #[.agg #[.int .i64 a, .int .i64 l, v], .int .i64 n, .int .i64 (k : Int)] H (fun r H' => r = .bool (decide (fdG n d z k)) ∧ Ext H H')) {ok : Nat → Prop} {z : GT d} {a l : Int} {v : Value} (hK : (kG d).rd W H ok z [.int .i64 a, .int .i64 l, v]) {b b2 : Nat} {n : Int} {k : Nat} (hn : 1 ≤ n ∧ n ≤ 7) (hk : 1 ≤ k ∧ k ≤ 12) (hb : At W H b ⟨2, [.int .i64 n], 1⟩) (hb2 : At W H b2 ⟨3, [.int .i64 (k : Int)], 1⟩) : ACalls Try.prog W 130 #[.agg #[.int .i64 a, .int .i64 l, v], .pointer (some ⟨b, 0, none⟩), .pointer (some ⟨b2, 0, none⟩)] H (fun r H' => r = .bool (!decide (fdG n d z (k - 1))) ∧ Ext H H') := by
  refine ACalls.of (args := [.agg #[.int .i64 a, .int .i64 l, v], .pointer (some ⟨b, 0, none⟩), .pointer (some ⟨b2, 0, none⟩)]) Try.func130 rfl rfl ?_
  have X0 := Ext.refl H
  obtain ⟨_, isl0⟩ := gk_isl hK
  refine AW.rs ?_
  refine AL.w rfl (.inl rfl) (WV.bx rfl rfl) ?_
  rintro _ H2 ⟨b1, rfl, hx3, hn4, hb5⟩
  have o6 := Nat.le_trans X0.bd hn4
  have ne7 : b ≠ b1 := by have := hb.lt; omega
  have ne8 : b2 ≠ b1 := by have := hb2.lt; omega
  have X9 := Ext.trans X0 hx3
  have hb10 := hb.ext hx3
  have hb11 := hb2.ext hx3
  have X12 := Ext.refl H2
  refine AL.val rfl (.inl rfl) (HV.as rfl) ?_
  refine AL.nx ?_
  refine AW.rs ?_
  refine AL.val rfl (.inl rfl) (HV.lda (cs := [.int .i64 a, .int .i64 l, v]) rfl va31 (at_cells hb5 rfl)) ?_
  refine AL.val rfl (.inl rfl) (HV.ld rfl va2 (at_cell hb10 rfl)) ?_
  refine AL.val rfl (.inl rfl) (HV.ld rfl va3 (at_cell hb11 rfl)) ?_
  refine AL.val rfl (.inl rfl) (HV.sub rfl rfl (by omega)) ?_
  rw [show ((k : Int) - 1) = ((k - 1 : Nat) : Int) from by omega]
  refine AL.w rfl (.inl rfl) (WV.call fn89 rfl (ih (Kd.ext (kG d) hK X9) n (k - 1) hn (by omega))) ?_
  rintro _ H13 ⟨rfl, hx14⟩
  have X15 := Ext.trans X9 hx14
  have X16 := Ext.trans X12 hx14
  have hb17 := hb10.ext hx14
  have hb18 := hb11.ext hx14
  have hb19 := hb5.ext hx14
  refine AL.val rfl (.inl rfl) (HV.not rfl) ?_
  refine AL.val rfl (.inl rfl) (HV.as rfl) ?_
  refine AL.nx ?_
  refine AW.ret ?_
  refine post_one rfl rfl ?_ (.inr rfl)
  exact ⟨rfl, X15⟩

set_option maxRecDepth 100000 in
theorem ixG_ok {d : Nat} (ih : ∀ {W : World} {H : Hp} {ok : Nat → Prop} {z : GT d} {a l : Int} {v : Value} (hK : (kG d).rd W H ok z [.int .i64 a, .int .i64 l, v]) (n : Int) (k : Nat) (hn : 1 ≤ n ∧ n ≤ 7) (hk : k ≤ 12), ACalls Try.prog W 89 #[.agg #[.int .i64 a, .int .i64 l, v], .int .i64 n, .int .i64 (k : Int)] H (fun r H' => r = .bool (decide (fdG n d z k)) ∧ Ext H H')) {v : Value} {ks : List (GT d)} {ok : Nat → Prop} (hr : RdK (kG d) W H ok v ks) {b b2 : Nat} {n : Int} {k : Nat} (hn : 1 ≤ n ∧ n ≤ 7) (hk : 1 ≤ k ∧ k ≤ 12) (hb : At W H b ⟨2, [.int .i64 n], 1⟩) (hb2 : At W H b2 ⟨3, [.int .i64 (k : Int)], 1⟩) : ACalls Try.prog W 151 #[v, (.func (.func 130) #[] #[.pointer (some ⟨b, 0, none⟩), .pointer (some ⟨b2, 0, none⟩)])] H (fun r H' => (∃ i : Int, r = .int .i64 i ∧ (0 ≤ i ↔ ¬ ∀ z ∈ ks, fdG n d z (k - 1))) ∧ Ext H H') := by
  refine ACalls.of (args := [v, (.func (.func 130) #[] #[.pointer (some ⟨b, 0, none⟩), .pointer (some ⟨b2, 0, none⟩)])]) Try.func151 rfl rfl ?_
  have X0 := Ext.refl H
  have hm1 := hr.max
  have sl29 : SlT Try.prog 29 31 (.agg #[(.int .i64 0), (.int .i64 0), (.slice none 0 0)]) (kG d).sz 40 := by rw [kG_sz]; exact sl29
  refine AW.rs ?_
  refine AL.val rfl (.inl rfl) (HV.as rfl) ?_
  refine AL.nx ?_
  refine AW.seq ?_
  refine AW.rs ?_
  refine AL.val rfl (.inl rfl) (HV.mv rfl) ?_
  refine AL.val rfl (.inl rfl) (HV.len Try.underlying29 rfl hr.isSl) ?_
  refine AL.val rfl (.inl rfl) (HV.mv rfl) ?_
  refine AL.nx ?_
  refine AW.block ?_
  refine AW.loop (σ := Nat) (fun i => [(0, v), (1, (.func (.func 130) #[] #[.pointer (some ⟨b, 0, none⟩), .pointer (some ⟨b2, 0, none⟩)])), (7, .int .i64 (ks.length : Int)), (8, .int .i64 (i : Int))]) (fun i H' => Ext H H' ∧ At W H' b ⟨2, [.int .i64 n], 1⟩ ∧ At W H' b2 ⟨3, [.int .i64 (k : Int)], 1⟩ ∧ i ≤ ks.length ∧ (∀ (j : Nat) (z : GT d), j < i → ks[j]? = some z → fdG n d z (k - 1)) ∧ True) (fun i => ks.length - i) 0 ⟨X0, hb, hb2, Nat.zero_le _, fun j z hj => absurd hj (Nat.not_lt_zero _), trivial⟩ ⟨rfl, rfl, rfl, rfl, trivial⟩ ?_
  rintro i H2 ⟨X3, hb4, hb5, hi, he, _⟩
  refine AW.rs ?_
  refine AL.val rfl (.inl rfl) (HV.lti rfl rfl) ?_
  refine AL.nx ?_
  refine AW.seq ?_
  refine AW.ifd rfl (fun c6 => ?_) (fun c6 => ?_)
  · -- then
    refine AW.skip ?_
    refine nrm_and ?_
    refine AW.seq ?_
    refine AW.block ?_
    refine AW.rs ?_
    refine AL.val rfl (.inl rfl) (HV.mv rfl) ?_
    refine AL.val rfl (.inl rfl) (HV.as rfl) ?_
    refine AL.nx ?_
    refine AW.rs ?_
    refine AL.val rfl (.inl rfl) (HV.mv rfl) ?_
    refine AL.val rfl (.inl rfl) (HV.mv rfl) ?_
    refine AL.val rfl (.inl rfl) (HV.mv rfl) ?_
    obtain ⟨p7, z8, cs9, hz10, hK11, hC12, hP13⟩ := RdK.ix (q := (i : Int)) hr sl29 (by omega) (by omega)
    obtain ⟨a14, l15, v16, n17, rfl, isl18⟩ := kG_cells hK11
    refine AL.val rfl (.inl rfl) (hP13 rfl rfl) ?_
    refine AL.val rfl (.inl rfl) (HV.lda (cs := [.int .i64 a14, .int .i64 l15, v16]) rfl va31 (hC12.ext X3)) ?_
    refine AL.w rfl (.inl rfl) (WV.callv fn130 rfl rfl (fm1_ok ih (Kd.ext (kG d) hK11 X3) hn hk hb4 hb5)) ?_
    rintro _ H19 ⟨rfl, hx20⟩
    have X21 := Ext.trans X3 hx20
    have hb22 := hb4.ext hx20
    have hb23 := hb5.ext hx20
    refine AL.nx ?_
    refine AW.ifn rfl (fun c24 => ?_) (fun c24 => ?_)
    · -- then
      refine AW.rs ?_
      refine AL.val rfl (.inl rfl) (HV.mv rfl) ?_
      refine AL.val rfl (.inl rfl) (HV.as rfl) ?_
      refine AL.nx ?_
      refine AW.ret ?_
      refine ret_blk (ret_and (ret_and (ret_blk (ret_and ?_))))
      refine post_one rfl rfl ?_ (.inr rfl)
      exact ⟨⟨_, rfl, fun _ q => c24 (q _ (List.mem_of_getElem? hz10)), fun _ => by omega⟩, X21⟩
    · -- else
      refine AW.skip ?_
      refine nrm_blk (nrm_and ?_)
      refine AW.reg ?_
      refine AL.val rfl (.inl rfl) (HV.add rfl rfl (by omega)) ?_
      refine AL.val rfl (.inl rfl) (HV.mv rfl) ?_
      refine AL.nil ?_
      refine nrm_and ?_
      exact ⟨i + 1, ⟨X21, hb22, hb23, by omega, fun j z hj h1 => by
      rcases Nat.lt_or_ge j i with q | q
      · exact he j z q h1
      · obtain rfl : j = i := by omega
        have ez : z = z8 := Option.some.inj (h1.symm.trans (getq hz10 rfl))
        rw [ez]; exact c24, trivial⟩, by first | omega | (dsimp only; omega), ⟨rfl, rfl, rfl, rfl, trivial⟩⟩
  · -- else
    refine AW.exit ?_
    refine ex_and (ex_and (ex_blk ?_))
    refine nrm_and ?_
    refine AW.rs ?_
    refine AL.val rfl (.inl rfl) (HV.as rfl) ?_
    refine AL.nx ?_
    refine AW.ret ?_
    refine post_one rfl rfl ?_ (.inr rfl)
    exact ⟨⟨_, rfl, fun q => absurd q (by decide), fun q => absurd (fun z hz => by obtain ⟨j, hj, rfl⟩ := List.getElem_of_mem hz; exact he j _ (by omega) (List.getElem?_eq_getElem hj)) q⟩, X3⟩

set_option maxRecDepth 100000 in
theorem coG_ok {d : Nat} (ih : ∀ {W : World} {H : Hp} {ok : Nat → Prop} {z : GT d} {a l : Int} {v : Value} (hK : (kG d).rd W H ok z [.int .i64 a, .int .i64 l, v]) (n : Int) (k : Nat) (hn : 1 ≤ n ∧ n ≤ 7) (hk : k ≤ 12), ACalls Try.prog W 89 #[.agg #[.int .i64 a, .int .i64 l, v], .int .i64 n, .int .i64 (k : Int)] H (fun r H' => r = .bool (decide (fdG n d z k)) ∧ Ext H H')) {v : Value} {ks : List (GT d)} {ok : Nat → Prop} (hr : RdK (kG d) W H ok v ks) {b b2 : Nat} {n : Int} {k : Nat} (hn : 1 ≤ n ∧ n ≤ 7) (hk : 1 ≤ k ∧ k ≤ 12) (hb : At W H b ⟨2, [.int .i64 n], 1⟩) (hb2 : At W H b2 ⟨3, [.int .i64 (k : Int)], 1⟩) : ACalls Try.prog W 129 #[v, (.func (.func 130) #[] #[.pointer (some ⟨b, 0, none⟩), .pointer (some ⟨b2, 0, none⟩)])] H (fun r H' => r = .bool (decide (¬ ∀ z ∈ ks, fdG n d z (k - 1))) ∧ Ext H H') := by
  refine ACalls.of (args := [v, (.func (.func 130) #[] #[.pointer (some ⟨b, 0, none⟩), .pointer (some ⟨b2, 0, none⟩)])]) Try.func129 rfl rfl ?_
  have X0 := Ext.refl H
  have hm1 := hr.max
  refine AW.rs ?_
  refine AL.val rfl (.inl rfl) (HV.as rfl) ?_
  refine AL.nx ?_
  refine AW.rs ?_
  refine AL.val rfl (.inl rfl) (HV.mv rfl) ?_
  refine AL.val rfl (.inl rfl) (HV.mv rfl) ?_
  refine AL.w rfl (.inl rfl) (WV.call fn151 rfl (ixG_ok ih hr hn hk hb hb2)) ?_
  rintro _ H2 ⟨⟨q4, rfl, he5⟩, hx3⟩
  have X6 := Ext.trans X0 hx3
  have hb7 := hb.ext hx3
  have hb8 := hb2.ext hx3
  refine AL.val rfl (.inl rfl) (HV.gei rfl rfl) ?_
  refine AL.val rfl (.inl rfl) (HV.as rfl) ?_
  refine AL.nx ?_
  refine AW.ret ?_
  refine post_one rfl rfl ?_ (.inr rfl)
  exact ⟨congrArg Value.bool (decide_eq_decide.2 he5), X6⟩

set_option maxRecDepth 100000 in
theorem isFormed_of {d : Nat} (ih : ∀ {W : World} {H : Hp} {ok : Nat → Prop} {z : GT d} {a l : Int} {v : Value} (hK : (kG d).rd W H ok z [.int .i64 a, .int .i64 l, v]) (n : Int) (k : Nat) (hn : 1 ≤ n ∧ n ≤ 7) (hk : k ≤ 12), ACalls Try.prog W 89 #[.agg #[.int .i64 a, .int .i64 l, v], .int .i64 n, .int .i64 (k : Int)] H (fun r H' => r = .bool (decide (fdG n d z k)) ∧ Ext H H')) {h l : Int} {v : Value} {ks : List (GT d)} {ok : Nat → Prop} (hr : RdK (kG d) W H ok v ks) (n : Int) (k : Nat) (hn : 1 ≤ n ∧ n ≤ 7) (hk : k ≤ 12) : ACalls Try.prog W 89 #[.agg #[.int .i64 h, .int .i64 l, v], .int .i64 n, .int .i64 (k : Int)] H (fun r H' => r = .bool (@decide (fdG n (d + 1) (h, l, ks) k) (Classical.propDecidable _)) ∧ Ext H H') := by
  refine ACalls.of (args := [.agg #[.int .i64 h, .int .i64 l, v], .int .i64 n, .int .i64 (k : Int)]) Try.func89 rfl rfl ?_
  have X0 := Ext.refl H
  have hm1 := hr.max
  refine AW.rs ?_
  refine AL.w rfl (.inl rfl) (WV.bx rfl rfl) ?_
  rintro _ H3 ⟨b2, rfl, hx4, hn5, hb6⟩
  have o7 := Nat.le_trans X0.bd hn5
  have X8 := Ext.trans X0 hx4
  have X9 := Ext.refl H3
  refine AL.w rfl (.inl rfl) (WV.bx rfl rfl) ?_
  rintro _ H11 ⟨b10, rfl, hx12, hn13, hb14⟩
  have o15 := Nat.le_trans X8.bd hn13
  have o16 := Nat.le_trans X9.bd hn13
  have ne17 : b2 ≠ b10 := by have := hb6.lt; omega
  have X18 := Ext.trans X8 hx12
  have X19 := Ext.trans X9 hx12
  have hb20 := hb6.ext hx12
  have X21 := Ext.refl H11
  refine AL.w rfl (.inl rfl) (WV.bx rfl rfl) ?_
  rintro _ H23 ⟨b22, rfl, hx24, hn25, hb26⟩
  have o27 := Nat.le_trans X18.bd hn25
  have o28 := Nat.le_trans X19.bd hn25
  have o29 := Nat.le_trans X21.bd hn25
  have ne30 : b2 ≠ b22 := by have := hb20.lt; omega
  have ne31 : b10 ≠ b22 := by have := hb14.lt; omega
  have X32 := Ext.trans X18 hx24
  have X33 := Ext.trans X19 hx24
  have X34 := Ext.trans X21 hx24
  have hb35 := hb20.ext hx24
  have hb36 := hb14.ext hx24
  have X37 := Ext.refl H23
  refine AL.val rfl (.inl rfl) (HV.as rfl) ?_
  refine AL.nx ?_
  refine AW.seq ?_
  refine AW.block ?_
  refine AW.rs ?_
  refine AL.val rfl (.inl rfl) (HV.ld rfl va3 (at_cell hb26 rfl)) ?_
  refine AL.val rfl (.inl rfl) (HV.eqi rfl rfl) ?_
  refine AL.val rfl (.inl rfl) (HV.as rfl) ?_
  refine AL.nx ?_
  refine AW.ifd rfl (fun c38 => ?_) (fun c38 => ?_)
  · -- then
    refine AW.rs ?_
    refine AL.val rfl (.inl rfl) (HV.as rfl) ?_
    refine AL.nx ?_
    refine AW.ret ?_
    refine ret_blk (ret_and ?_)
    refine post_one rfl rfl ?_ (.inr rfl)
    exact ⟨@dec_f _ (Classical.propDecidable _) (fun q => by rw [fdG_succ] at q; exact q.1 (by omega)), X32⟩
  · -- else
    refine AW.rs ?_
    refine AL.val rfl (.inl rfl) (HV.lda (cs := [.int .i64 h, .int .i64 l, v]) rfl va31 (at_cells hb35 rfl)) ?_
    refine AL.w rfl (.inl rfl) (WV.call fn91 rfl (isLeaf_ok (hr.ext X32))) ?_
    rintro _ H39 ⟨rfl, hx40⟩
    have X41 := Ext.trans X32 hx40
    have X42 := Ext.trans X33 hx40
    have X43 := Ext.trans X34 hx40
    have X44 := Ext.trans X37 hx40
    have hb45 := hb35.ext hx40
    have hb46 := hb36.ext hx40
    have hb47 := hb26.ext hx40
    refine AL.val rfl (.inl rfl) (HV.as rfl) ?_
    refine AL.nx ?_
    refine AW.ifd rfl (fun c48 => ?_) (fun c48 => ?_)
    · -- then
      refine AW.rs ?_
      refine AL.val rfl (.inl rfl) (HV.fa fl31_0 rfl) ?_
      refine AL.val rfl (.inl rfl) (HV.ld rfl va2 (at_cell hb45 rfl)) ?_
      refine AL.val rfl (.inl rfl) (HV.ld rfl va2 (at_cell hb46 rfl)) ?_
      refine AL.val rfl (.inl rfl) (HV.sub rfl rfl (by omega)) ?_
      refine AL.w rfl (.inl rfl) (WV.call fn81 rfl (within_ok (W := W) h 0 (n - 1))) ?_
      rintro _ H49 ⟨rfl, hx50⟩
      have X51 := Ext.trans X41 hx50
      have X52 := Ext.trans X42 hx50
      have X53 := Ext.trans X43 hx50
      have X54 := Ext.trans X44 hx50
      have hb55 := hb45.ext hx50
      have hb56 := hb46.ext hx50
      have hb57 := hb47.ext hx50
      refine AL.val rfl (.inl rfl) (HV.mv rfl) ?_
      by_cases c58 : 0 ≤ h ∧ h ≤ (n - 1)
      · -- true
        have c58_ : decide (0 ≤ h ∧ h ≤ (n - 1)) = true := decide_eq_true c58
        rw [c58_]
        refine AL.val rfl (.inr ⟨_, _, _, rfl, rfl, rfl⟩) (HV.fa fl31_1 rfl) ?_
        refine AL.val rfl (.inr ⟨_, _, _, rfl, rfl, rfl⟩) (HV.ld rfl va2 (at_cell_add hb55 rfl)) ?_
        refine AL.val rfl (.inr ⟨_, _, _, rfl, rfl, rfl⟩) (HV.eqi rfl rfl) ?_
        refine AL.val rfl (.inl rfl) (HV.pickT rfl rfl) ?_
        refine AL.val rfl (.inl rfl) (HV.as rfl) ?_
        refine AL.nx ?_
        refine AW.ret ?_
        refine ret_blk (ret_and ?_)
        refine post_one rfl rfl ?_ (.inr rfl)
        exact ⟨congrArg Value.bool (decide_eq_decide.2 (by rw [fdG_succ, if_pos (by omega)]; omega)), X51⟩
      · -- false
        have c58_ : decide (0 ≤ h ∧ h ≤ (n - 1)) = false := decide_eq_false c58
        rw [c58_]
        refine AL.off rfl rfl (by decide) rfl ?_
        refine AL.off rfl rfl (by decide) rfl ?_
        refine AL.off rfl rfl (by decide) rfl ?_
        refine AL.val rfl (.inl rfl) (HV.pickF rfl rfl) ?_
        refine AL.val rfl (.inl rfl) (HV.as rfl) ?_
        refine AL.nx ?_
        refine AW.ret ?_
        refine ret_blk (ret_and ?_)
        refine post_one rfl rfl ?_ (.inr rfl)
        exact ⟨@dec_f _ (Classical.propDecidable _) (by rw [fdG_succ, if_pos (by omega)]; omega), X51⟩
    · -- else
      refine AW.rs ?_
      refine AL.val rfl (.inl rfl) (HV.fa fl31_0 rfl) ?_
      refine AL.val rfl (.inl rfl) (HV.ld rfl va2 (at_cell hb45 rfl)) ?_
      refine AL.val rfl (.inl rfl) (HV.nei rfl rfl) ?_
      refine AL.val rfl (.inl rfl) (HV.mv rfl) ?_
      by_cases c59 : h ≠ (-1)
      · -- true
        have c59_ : decide (h ≠ (-1)) = true := decide_eq_true c59
        rw [c59_]
        refine AL.off rfl rfl (by decide) rfl ?_
        refine AL.off rfl rfl (by decide) rfl ?_
        refine AL.off rfl rfl (by decide) rfl ?_
        refine AL.off rfl rfl (by decide) rfl ?_
        refine AL.off rfl rfl (by decide) rfl ?_
        refine AL.off rfl rfl (by decide) rfl ?_
        refine AL.off rfl rfl (by decide) rfl ?_
        refine AL.val rfl (.inl rfl) (HV.pickT rfl rfl) ?_
        refine AL.val rfl (.inl rfl) (HV.as rfl) ?_
        refine AL.nx ?_
        refine AW.cond rfl (fun _ => ?_) (fun h => by cases h)
        refine AW.rs ?_
        refine AL.val rfl (.inl rfl) (HV.as rfl) ?_
        refine AL.nx ?_
        refine AW.ret ?_
        refine ret_blk (ret_and ?_)
        refine post_one rfl rfl ?_ (.inr rfl)
        exact ⟨@dec_f _ (Classical.propDecidable _) (fun q => by rw [fdG_succ, if_neg (by omega)] at q; have := q.2.1; omega), X41⟩
      · -- false
        have c59_ : decide (h ≠ (-1)) = false := decide_eq_false c59
        rw [c59_]
        refine AL.val rfl (.inr ⟨_, _, _, rfl, rfl, rfl⟩) (HV.fa fl31_1 rfl) ?_
        refine AL.val rfl (.inr ⟨_, _, _, rfl, rfl, rfl⟩) (HV.ld rfl va2 (at_cell_add hb45 rfl)) ?_
        refine AL.val rfl (.inr ⟨_, _, _, rfl, rfl, rfl⟩) (HV.fa fl31_2 rfl) ?_
        refine AL.val rfl (.inr ⟨_, _, _, rfl, rfl, rfl⟩) (HV.ld rfl va29 (at_cell_add hb45 rfl)) ?_
        refine AL.val rfl (.inr ⟨_, _, _, rfl, rfl, rfl⟩) (HV.len Try.underlying29 rfl hr.isSl) ?_
        refine AL.w rfl (.inr ⟨_, _, _, rfl, rfl, rfl⟩) (WV.call fn81 rfl (within_ok (W := W) l 1 (ks.length : Int))) ?_
        rintro _ H61 ⟨rfl, hx62⟩
        have X63 := Ext.trans X41 hx62
        have X64 := Ext.trans X42 hx62
        have X65 := Ext.trans X43 hx62
        have X66 := Ext.trans X44 hx62
        have hb67 := hb45.ext hx62
        have hb68 := hb46.ext hx62
        have hb69 := hb47.ext hx62
        refine AL.val rfl (.inr ⟨_, _, _, rfl, rfl, rfl⟩) (HV.not rfl) ?_
        refine AL.val rfl (.inl rfl) (HV.pickF rfl rfl) ?_
        refine AL.val rfl (.inl rfl) (HV.as rfl) ?_
        refine AL.nx ?_
        refine AW.ifn rfl (fun c70 => ?_) (fun c70 => ?_)
        · -- then
          refine AW.rs ?_
          refine AL.val rfl (.inl rfl) (HV.as rfl) ?_
          refine AL.nx ?_
          refine AW.ret ?_
          refine ret_blk (ret_and ?_)
          refine post_one rfl rfl ?_ (.inr rfl)
          exact ⟨@dec_f _ (Classical.propDecidable _) (fun q => by rw [fdG_succ, if_neg (by omega)] at q; have := q.2.1; omega), X63⟩
        · -- else
          refine AW.skip ?_
          refine nrm_blk (nrm_and ?_)
          refine AW.rs ?_
          refine AL.val rfl (.inl rfl) (HV.fa fl31_2 rfl) ?_
          refine AL.val rfl (.inl rfl) (HV.ld rfl va29 (at_cell_add hb67 rfl)) ?_
          refine AL.val rfl (.inl rfl) (HV.fn rfl rfl) ?_
          refine AL.w rfl (.inl rfl) (WV.call fn129 rfl (coG_ok ih (hr.ext X63) hn (by omega) hb68 hb69)) ?_
          rintro _ H71 ⟨rfl, hx72⟩
          have X73 := Ext.trans X63 hx72
          have X74 := Ext.trans X64 hx72
          have X75 := Ext.trans X65 hx72
          have X76 := Ext.trans X66 hx72
          have hb77 := hb67.ext hx72
          have hb78 := hb68.ext hx72
          have hb79 := hb69.ext hx72
          refine AL.val rfl (.inl rfl) (HV.not rfl) ?_
          refine AL.val rfl (.inl rfl) (HV.as rfl) ?_
          refine AL.nx ?_
          refine AW.ret ?_
          refine post_one rfl rfl ?_ (.inr rfl)
          exact ⟨congrArg Value.bool (by rw [Bool.eq_iff_iff]; simp only [Bool.not_eq_true', decide_eq_false_iff_not, Classical.not_not, decide_eq_true_eq]; rw [fdG_succ, if_neg (by omega)]; exact ⟨fun q => ⟨by omega, ⟨by omega, by omega, by omega⟩, q⟩, fun q => q.2.2⟩), X73⟩

theorem isFormed_all (d : Nat) : ∀ {W : World} {H : Hp} {ok : Nat → Prop} {z : GT d} {a l : Int} {v : Value} (hK : (kG d).rd W H ok z [.int .i64 a, .int .i64 l, v]) (n : Int) (k : Nat) (hn : 1 ≤ n ∧ n ≤ 7) (hk : k ≤ 12), ACalls Try.prog W 89 #[.agg #[.int .i64 a, .int .i64 l, v], .int .i64 n, .int .i64 (k : Int)] H (fun r H' => r = .bool (decide (fdG n d z k)) ∧ Ext H H') := by
  induction d with
  | zero => intro W H ok z a l v hK n k hn hk; exact hK.elim
  | succ d ih =>
    intro W H ok z a l v hK n k hn hk
    obtain ⟨h', l', ks⟩ := z
    obtain ⟨v', e, hr⟩ := kG_succ.1 hK
    simp only [List.cons.injEq, Value.int.injEq, true_and, and_true] at e
    obtain ⟨rfl, rfl, rfl⟩ := e
    exact isFormed_of ih hr n k hn hk

set_option maxRecDepth 100000 in
theorem ValidGate_ok {d : Nat} {ok : Nat → Prop} {z : GT d} {a l : Int} {v : Value} (hK : (kG d).rd W H ok z [.int .i64 a, .int .i64 l, v]) (n : Int) (hs : szG d z ≤ 2000000) : ACalls Try.prog W 54 #[.int .i64 n, .agg #[.int .i64 a, .int .i64 l, v]] H (fun r H' => r = .bool (decide (vG n d z)) ∧ Ext H H') := by
  refine ACalls.of (args := [.int .i64 n, .agg #[.int .i64 a, .int .i64 l, v]]) Try.func54 rfl rfl ?_
  have X0 := Ext.refl H
  obtain ⟨_, isl0⟩ := gk_isl hK
  refine AW.rs ?_
  refine AL.w rfl (.inl rfl) (WV.bx rfl rfl) ?_
  rintro _ H2 ⟨b1, rfl, hx3, hn4, hb5⟩
  have o6 := Nat.le_trans X0.bd hn4
  have X7 := Ext.trans X0 hx3
  have X8 := Ext.refl H2
  refine AL.val rfl (.inl rfl) (HV.as rfl) ?_
  refine AL.nx ?_
  refine AW.rs ?_
  refine AL.val rfl (.inl rfl) (HV.mv rfl) ?_
  refine AL.w rfl (.inl rfl) (WV.call fn81 rfl (within_ok (W := W) n 1 7)) ?_
  rintro _ H9 ⟨rfl, hx10⟩
  have X11 := Ext.trans X7 hx10
  have X12 := Ext.trans X8 hx10
  have hb13 := hb5.ext hx10
  refine AL.val rfl (.inl rfl) (HV.mv rfl) ?_
  by_cases c14 : 1 ≤ n ∧ n ≤ 7
  · -- true
    have c14_ : decide (1 ≤ n ∧ n ≤ 7) = true := decide_eq_true c14
    rw [c14_]
    refine AL.val rfl (.inr ⟨_, _, _, rfl, rfl, rfl⟩) (HV.lda (cs := [.int .i64 a, .int .i64 l, v]) rfl va31 (at_cells hb13 rfl)) ?_
    refine AL.val rfl (.inr ⟨_, _, _, rfl, rfl, rfl⟩) (HV.mv rfl) ?_
    refine AL.w rfl (.inr ⟨_, _, _, rfl, rfl, rfl⟩) (WV.call fn89 rfl (isFormed_all d (Kd.ext (kG d) hK X11) n 12 (by assumption : 1 ≤ n ∧ n ≤ 7) (by decide))) ?_
    rintro _ H15 ⟨rfl, hx16⟩
    have X17 := Ext.trans X11 hx16
    have X18 := Ext.trans X12 hx16
    have hb19 := hb13.ext hx16
    refine AL.val rfl (.inl rfl) (HV.pickT rfl rfl) ?_
    refine AL.val rfl (.inl rfl) (HV.mv rfl) ?_
    by_cases c20 : fdG n d z 12
    · -- true
      have c20_ : decide (fdG n d z 12) = true := decide_eq_true c20
      rw [c20_]
      refine AL.val rfl (.inr ⟨_, _, _, rfl, rfl, rfl⟩) (HV.lda (cs := [.int .i64 a, .int .i64 l, v]) rfl va31 (at_cells hb19 rfl)) ?_
      refine AL.w rfl (.inr ⟨_, _, _, rfl, rfl, rfl⟩) (WV.call fn90 rfl (GateSize_all d (Kd.ext (kG d) hK X17) hs)) ?_
      rintro _ H21 ⟨rfl, hx22⟩
      have X23 := Ext.trans X17 hx22
      have X24 := Ext.trans X18 hx22
      have hb25 := hb19.ext hx22
      refine AL.val rfl (.inr ⟨_, _, _, rfl, rfl, rfl⟩) (HV.lei rfl rfl) ?_
      refine AL.val rfl (.inl rfl) (HV.pickT rfl rfl) ?_
      refine AL.val rfl (.inl rfl) (HV.as rfl) ?_
      refine AL.nx ?_
      refine AW.ret ?_
      refine post_one rfl rfl ?_ (.inr rfl)
      exact ⟨congrArg Value.bool (decide_eq_decide.2 (by have h1 : 1 ≤ n ∧ n ≤ 7 := (by assumption); have h2 := (fd_iff z 12).1 (by assumption); exact ⟨fun q => ⟨h1, by omega, h2.2, h2.1⟩, fun q => by have := q.2.1; omega⟩)), X23⟩
    · -- false
      have c20_ : decide (fdG n d z 12) = false := decide_eq_false c20
      rw [c20_]
      refine AL.off rfl rfl (by decide) rfl ?_
      refine AL.off rfl rfl (by decide) rfl ?_
      refine AL.off rfl rfl (by decide) rfl ?_
      refine AL.val rfl (.inl rfl) (HV.pickF rfl rfl) ?_
      refine AL.val rfl (.inl rfl) (HV.as rfl) ?_
      refine AL.nx ?_
      refine AW.ret ?_
      refine post_one rfl rfl ?_ (.inr rfl)
      exact ⟨dec_f (fun q => absurd ((fd_iff z 12).2 ⟨q.2.2.2, q.2.2.1⟩) (by assumption)), X17⟩
  · -- false
    have c14_ : decide (1 ≤ n ∧ n ≤ 7) = false := decide_eq_false c14
    rw [c14_]
    refine AL.off rfl rfl (by decide) rfl ?_
    refine AL.off rfl rfl (by decide) rfl ?_
    refine AL.off rfl rfl (by decide) rfl ?_
    refine AL.val rfl (.inl rfl) (HV.pickF rfl rfl) ?_
    refine AL.val rfl (.inl rfl) (HV.mv rfl) ?_
    refine AL.off rfl rfl (by decide) rfl ?_
    refine AL.off rfl rfl (by decide) rfl ?_
    refine AL.off rfl rfl (by decide) rfl ?_
    refine AL.val rfl (.inl rfl) (HV.pickF rfl rfl) ?_
    refine AL.val rfl (.inl rfl) (HV.as rfl) ?_
    refine AL.nx ?_
    refine AW.ret ?_
    refine post_one rfl rfl ?_ (.inr rfl)
    exact ⟨dec_f (fun q => absurd q.1 (by assumption)), X11⟩

set_option maxRecDepth 100000 in
theorem l02Ok_ok {d : Nat} {p : Addr} {ok : Nat → Prop} {z : GT d} {a l : Int} {v : Value} (hK : (kG d).rd W H ok z [.int .i64 a, .int .i64 l, v]) (hc : Cells W H p [.int .i64 a, .int .i64 l, v]) (n : Int) : ACalls Try.prog W 49 #[.int .i64 n, .pointer (some p)] H (fun r H' => r = .bool (decide (vG n d z)) ∧ Ext H H') := by
  refine ACalls.of (args := [.int .i64 n, .pointer (some p)]) Try.func49 rfl rfl ?_
  have X0 := Ext.refl H
  obtain ⟨_, isl0⟩ := gk_isl hK
  refine AW.rs ?_
  refine AL.val rfl (.inl rfl) (HV.as rfl) ?_
  refine AL.nx ?_
  refine AW.rs ?_
  refine AL.val rfl (.inl rfl) (HV.mv rfl) ?_
  refine AL.w rfl (.inl rfl) (WV.call fn76 rfl (l00In_ok (W := W) n 1 7)) ?_
  rintro _ H1 ⟨rfl, hx2⟩
  have X3 := Ext.trans X0 hx2
  refine AL.val rfl (.inl rfl) (HV.mv rfl) ?_
  by_cases c4 : 1 ≤ n ∧ n ≤ 7
  · -- true
    have c4_ : decide (1 ≤ n ∧ n ≤ 7) = true := decide_eq_true c4
    rw [c4_]
    refine AL.val rfl (.inr ⟨_, _, _, rfl, rfl, rfl⟩) (HV.mv rfl) ?_
    refine AL.w rfl (.inr ⟨_, _, _, rfl, rfl, rfl⟩) (WV.call fn85 rfl (l02Left_all d (Kd.ext (kG d) hK X3) (hc.ext X3) 60 (by omega))) ?_
    rintro _ H5 ⟨rfl, hx6⟩
    have X7 := Ext.trans X3 hx6
    refine AL.val rfl (.inr ⟨_, _, _, rfl, rfl, rfl⟩) (HV.gei rfl rfl) ?_
    refine AL.val rfl (.inl rfl) (HV.pickT rfl rfl) ?_
    refine AL.val rfl (.inl rfl) (HV.mv rfl) ?_
    by_cases c8 : (max (60 - (szG d z : Int)) (-1)) ≥ 0
    · -- true
      have c8_ : decide ((max (60 - (szG d z : Int)) (-1)) ≥ 0) = true := decide_eq_true c8
      rw [c8_]
      refine AL.val rfl (.inr ⟨_, _, _, rfl, rfl, rfl⟩) (HV.mv rfl) ?_
      refine AL.w rfl (.inr ⟨_, _, _, rfl, rfl, rfl⟩) (WV.call fn86 rfl (l02Depth_all d (Kd.ext (kG d) hK X7) (hc.ext X7) (by omega))) ?_
      rintro _ H9 ⟨rfl, hx10⟩
      have X11 := Ext.trans X7 hx10
      refine AL.val rfl (.inr ⟨_, _, _, rfl, rfl, rfl⟩) (HV.lei rfl rfl) ?_
      refine AL.val rfl (.inl rfl) (HV.pickT rfl rfl) ?_
      refine AL.val rfl (.inl rfl) (HV.mv rfl) ?_
      by_cases c12 : (dpG d z : Int) ≤ 12
      · -- true
        have c12_ : decide ((dpG d z : Int) ≤ 12) = true := decide_eq_true c12
        rw [c12_]
        refine AL.val rfl (.inr ⟨_, _, _, rfl, rfl, rfl⟩) (HV.mv rfl) ?_
        refine AL.val rfl (.inr ⟨_, _, _, rfl, rfl, rfl⟩) (HV.mv rfl) ?_
        refine AL.w rfl (.inr ⟨_, _, _, rfl, rfl, rfl⟩) (WV.call fn87 rfl (l02Form_all d (Kd.ext (kG d) hK X11) (hc.ext X11) n (by first | assumption | omega))) ?_
        rintro _ H13 ⟨rfl, hx14⟩
        have X15 := Ext.trans X11 hx14
        refine AL.val rfl (.inl rfl) (HV.pickT rfl rfl) ?_
        refine AL.val rfl (.inl rfl) (HV.as rfl) ?_
        refine AL.nx ?_
        refine AW.ret ?_
        refine post_one rfl rfl ?_ (.inr rfl)
        exact ⟨congrArg Value.bool (decide_eq_decide.2 ⟨fun q => ⟨by assumption, by omega, by omega, q⟩, fun q => q.2.2.2⟩), X15⟩
      · -- false
        have c12_ : decide ((dpG d z : Int) ≤ 12) = false := decide_eq_false c12
        rw [c12_]
        refine AL.off rfl rfl (by decide) rfl ?_
        refine AL.off rfl rfl (by decide) rfl ?_
        refine AL.off rfl rfl (by decide) rfl ?_
        refine AL.val rfl (.inl rfl) (HV.pickF rfl rfl) ?_
        refine AL.val rfl (.inl rfl) (HV.as rfl) ?_
        refine AL.nx ?_
        refine AW.ret ?_
        refine post_one rfl rfl ?_ (.inr rfl)
        exact ⟨dec_f (fun q => by have := q.2.2.1; omega), X11⟩
    · -- false
      have c8_ : decide ((max (60 - (szG d z : Int)) (-1)) ≥ 0) = false := decide_eq_false c8
      rw [c8_]
      refine AL.off rfl rfl (by decide) rfl ?_
      refine AL.off rfl rfl (by decide) rfl ?_
      refine AL.off rfl rfl (by decide) rfl ?_
      refine AL.val rfl (.inl rfl) (HV.pickF rfl rfl) ?_
      refine AL.val rfl (.inl rfl) (HV.mv rfl) ?_
      refine AL.off rfl rfl (by decide) rfl ?_
      refine AL.off rfl rfl (by decide) rfl ?_
      refine AL.off rfl rfl (by decide) rfl ?_
      refine AL.val rfl (.inl rfl) (HV.pickF rfl rfl) ?_
      refine AL.val rfl (.inl rfl) (HV.as rfl) ?_
      refine AL.nx ?_
      refine AW.ret ?_
      refine post_one rfl rfl ?_ (.inr rfl)
      exact ⟨dec_f (fun q => by have := q.2.1; omega), X7⟩
  · -- false
    have c4_ : decide (1 ≤ n ∧ n ≤ 7) = false := decide_eq_false c4
    rw [c4_]
    refine AL.off rfl rfl (by decide) rfl ?_
    refine AL.off rfl rfl (by decide) rfl ?_
    refine AL.off rfl rfl (by decide) rfl ?_
    refine AL.val rfl (.inl rfl) (HV.pickF rfl rfl) ?_
    refine AL.val rfl (.inl rfl) (HV.mv rfl) ?_
    refine AL.off rfl rfl (by decide) rfl ?_
    refine AL.off rfl rfl (by decide) rfl ?_
    refine AL.off rfl rfl (by decide) rfl ?_
    refine AL.val rfl (.inl rfl) (HV.pickF rfl rfl) ?_
    refine AL.val rfl (.inl rfl) (HV.mv rfl) ?_
    refine AL.off rfl rfl (by decide) rfl ?_
    refine AL.off rfl rfl (by decide) rfl ?_
    refine AL.off rfl rfl (by decide) rfl ?_
    refine AL.val rfl (.inl rfl) (HV.pickF rfl rfl) ?_
    refine AL.val rfl (.inl rfl) (HV.as rfl) ?_
    refine AL.nx ?_
    refine AW.ret ?_
    refine post_one rfl rfl ?_ (.inr rfl)
    exact ⟨dec_f (fun q => absurd q.1 (by assumption)), X3⟩

theorem bits7 {n : Int} {g : List Int} (hn : 1 ≤ n ∧ n ≤ 7) (hg : Ris 0 (n - 1) g) : bitN g < 128 := by
  have h7 := (bits_nat hn hg).2.2
  have h8 := pow7 hn
  omega
theorem crowdN_ok {n : Int} {ok2 : Nat → Prop} {v2 : Value} {g : List Int} (hr2 : RdK kI W H ok2 v2 g) (hn : 1 ≤ n ∧ n ≤ 7) (hg : Ris 0 (n - 1) g) : ACalls Try.prog W 57 #[v2] H (fun r H' => r = .int .u64 ((bitN g : Nat) : Int) ∧ Ext H H') := by
  rw [← (bits_nat hn hg).2.1]
  exact crowdOf_ok hr2 (ris_low hn hg)

set_option maxRecDepth 100000 in
theorem specGate_ok {d : Nat} {ok : Nat → Prop} {z : GT d} {a l : Int} {v : Value} (hK : (kG d).rd W H ok z [.int .i64 a, .int .i64 l, v]) (n : Int) {ok2 : Nat → Prop} {v2 : Value} {g : List Int} (hr2 : RdK kI W H ok2 v2 g) : ACalls Try.prog W 13 #[.int .i64 n, .agg #[.int .i64 a, .int .i64 l, v], v2] H (fun r H' => r = (.tuple #[.bool (decide (vG n d z ∧ Ris 0 (n - 1) g ∧ opG (bitN g) d z)), .int .i64 (if vG n d z then if Ris 0 (n - 1) g then 0 else 2 else 1)]) ∧ Ext H H') := by
  refine ACalls.of (args := [.int .i64 n, .agg #[.int .i64 a, .int .i64 l, v], v2]) Try.func13 rfl rfl ?_
  have X0 := Ext.refl H
  have hm1 := hr2.max
  obtain ⟨_, isl0⟩ := gk_isl hK
  refine AW.rs ?_
  refine AL.w rfl (.inl rfl) (WV.bx rfl rfl) ?_
  rintro _ H3 ⟨b2, rfl, hx4, hn5, hb6⟩
  have o7 := Nat.le_trans X0.bd hn5
  have X8 := Ext.trans X0 hx4
  have X9 := Ext.refl H3
  refine AL.val rfl (.inl rfl) (HV.as rfl) ?_
  refine AL.val rfl (.inl rfl) (HV.as rfl) ?_
  refine AL.nx ?_
  refine AW.seq ?_
  refine AW.rs ?_
  refine AL.val rfl (.inl rfl) (HV.mv rfl) ?_
  refine AL.w rfl (.inl rfl) (WV.call fn49 rfl (l02Ok_ok (Kd.ext (kG d) hK X8) (at_cells hb6 rfl) n)) ?_
  rintro _ H10 ⟨rfl, hx11⟩
  have X12 := Ext.trans X8 hx11
  have X13 := Ext.trans X9 hx11
  have hb14 := hb6.ext hx11
  refine AL.val rfl (.inl rfl) (HV.not rfl) ?_
  refine AL.nx ?_
  refine AW.ifn rfl (fun c15 => ?_) (fun c15 => ?_)
  · -- then
    refine AW.rs ?_
    refine AL.val rfl (.inl rfl) (HV.as rfl) ?_
    refine AL.val rfl (.inl rfl) (HV.as rfl) ?_
    refine AL.nx ?_
    refine AW.ret ?_
    refine ret_and ?_
    refine post_two rfl rfl rfl ?_ (.inr rfl)
    exact ⟨by rw [if_neg c15, decide_eq_false (fun q : vG n d z ∧ Ris 0 (n - 1) g ∧ opG (bitN g) d z => c15 q.1)], X12⟩
  · -- else
    refine AW.skip ?_
    refine nrm_and ?_
    refine AW.seq ?_
    refine AW.rs ?_
    refine AL.val rfl (.inl rfl) (HV.mv rfl) ?_
    refine AL.val rfl (.inl rfl) (HV.mv rfl) ?_
    refine AL.w rfl (.inl rfl) (WV.call fn50 rfl (l01Group_ok n (hr2.ext X12) (by have := (by assumption : vG n d z).1; omega))) ?_
    rintro _ H16 ⟨rfl, hx17⟩
    have X18 := Ext.trans X12 hx17
    have X19 := Ext.trans X13 hx17
    have hb20 := hb14.ext hx17
    refine AL.val rfl (.inl rfl) (HV.not rfl) ?_
    refine AL.nx ?_
    refine AW.ifn rfl (fun c21 => ?_) (fun c21 => ?_)
    · -- then
      refine AW.rs ?_
      refine AL.val rfl (.inl rfl) (HV.as rfl) ?_
      refine AL.val rfl (.inl rfl) (HV.as rfl) ?_
      refine AL.nx ?_
      refine AW.ret ?_
      refine ret_and ?_
      refine post_two rfl rfl rfl ?_ (.inr rfl)
      have hv : vG n d z := (by assumption); exact ⟨by rw [if_pos hv, if_neg c21, decide_eq_false (fun q : vG n d z ∧ Ris 0 (n - 1) g ∧ opG (bitN g) d z => c21 q.2.1)], X18⟩
    · -- else
      refine AW.skip ?_
      refine nrm_and ?_
      refine AW.rs ?_
      refine AL.val rfl (.inl rfl) (HV.mv rfl) ?_
      refine AL.w rfl (.inl rfl) (WV.call fn52 rfl ((by have h9 := l01Bits_ok (hr2.ext X18); rw [(bits_nat (by assumption : vG n d z).1 (by assumption : Ris 0 (n - 1) g)).1] at h9; exact h9))) ?_
      rintro _ H22 ⟨rfl, hx23⟩
      have X24 := Ext.trans X18 hx23
      have X25 := Ext.trans X19 hx23
      have hb26 := hb20.ext hx23
      refine AL.w rfl (.inl rfl) (WV.call fn51 rfl (l02Open_all d (Kd.ext (kG d) hK X24) (at_cells hb26 rfl) n (bitN g) (by assumption : vG n d z).1 (bits7 (by assumption : vG n d z).1 (by assumption : Ris 0 (n - 1) g)) (by assumption : vG n d z).2.2.2)) ?_
      rintro _ H27 ⟨rfl, hx28⟩
      have X29 := Ext.trans X24 hx28
      have X30 := Ext.trans X25 hx28
      have hb31 := hb26.ext hx28
      refine AL.val rfl (.inl rfl) (HV.as rfl) ?_
      refine AL.val rfl (.inl rfl) (HV.as rfl) ?_
      refine AL.nx ?_
      refine AW.ret ?_
      refine post_two rfl rfl rfl ?_ (.inr rfl)
      have hv : vG n d z := (by assumption); have hg : Ris 0 (n - 1) g := (by assumption); exact ⟨by rw [if_pos hv, if_pos hg, show decide (opG (bitN g) d z) = decide (vG n d z ∧ Ris 0 (n - 1) g ∧ opG (bitN g) d z) from decide_eq_decide.2 ⟨fun q => ⟨hv, hg, q⟩, fun q => q.2.2⟩], X29⟩

set_option maxRecDepth 100000 in
theorem implGate_ok {d : Nat} {ok : Nat → Prop} {z : GT d} {a l : Int} {v : Value} (hK : (kG d).rd W H ok z [.int .i64 a, .int .i64 l, v]) (n : Int) (hs : szG d z ≤ 2000000) {ok2 : Nat → Prop} {v2 : Value} {g : List Int} (hr2 : RdK kI W H ok2 v2 g) : ACalls Try.prog W 16 #[.int .i64 n, .agg #[.int .i64 a, .int .i64 l, v], v2] H (fun r H' => r = (.tuple #[.bool (decide (vG n d z ∧ Ris 0 (n - 1) g ∧ opG (bitN g) d z)), .int .i64 (if vG n d z then if Ris 0 (n - 1) g then 0 else 2 else 1)]) ∧ Ext H H') := by
  refine ACalls.of (args := [.int .i64 n, .agg #[.int .i64 a, .int .i64 l, v], v2]) Try.func16 rfl rfl ?_
  have X0 := Ext.refl H
  have hm1 := hr2.max
  obtain ⟨_, isl0⟩ := gk_isl hK
  refine AW.rs ?_
  refine AL.w rfl (.inl rfl) (WV.bx rfl rfl) ?_
  rintro _ H3 ⟨b2, rfl, hx4, hn5, hb6⟩
  have o7 := Nat.le_trans X0.bd hn5
  have X8 := Ext.trans X0 hx4
  have X9 := Ext.refl H3
  refine AL.val rfl (.inl rfl) (HV.as rfl) ?_
  refine AL.val rfl (.inl rfl) (HV.as rfl) ?_
  refine AL.nx ?_
  refine AW.seq ?_
  refine AW.rs ?_
  refine AL.val rfl (.inl rfl) (HV.mv rfl) ?_
  refine AL.val rfl (.inl rfl) (HV.lda (cs := [.int .i64 a, .int .i64 l, v]) rfl va31 (at_cells hb6 rfl)) ?_
  refine AL.w rfl (.inl rfl) (WV.call fn54 rfl (ValidGate_ok (Kd.ext (kG d) hK X8) n hs)) ?_
  rintro _ H10 ⟨rfl, hx11⟩
  have X12 := Ext.trans X8 hx11
  have X13 := Ext.trans X9 hx11
  have hb14 := hb6.ext hx11
  refine AL.val rfl (.inl rfl) (HV.not rfl) ?_
  refine AL.nx ?_
  refine AW.ifn rfl (fun c15 => ?_) (fun c15 => ?_)
  · -- then
    refine AW.rs ?_
    refine AL.val rfl (.inl rfl) (HV.as rfl) ?_
    refine AL.val rfl (.inl rfl) (HV.as rfl) ?_
    refine AL.nx ?_
    refine AW.ret ?_
    refine ret_and ?_
    refine post_two rfl rfl rfl ?_ (.inr rfl)
    exact ⟨by rw [if_neg c15, decide_eq_false (fun q : vG n d z ∧ Ris 0 (n - 1) g ∧ opG (bitN g) d z => c15 q.1)], X12⟩
  · -- else
    refine AW.skip ?_
    refine nrm_and ?_
    refine AW.seq ?_
    refine AW.rs ?_
    refine AL.val rfl (.inl rfl) (HV.mv rfl) ?_
    refine AL.val rfl (.inl rfl) (HV.mv rfl) ?_
    refine AL.w rfl (.inl rfl) (WV.call fn55 rfl (isGroup_ok n (hr2.ext X12) (by have := (by assumption : vG n d z).1; omega))) ?_
    rintro _ H16 ⟨rfl, hx17⟩
    have X18 := Ext.trans X12 hx17
    have X19 := Ext.trans X13 hx17
    have hb20 := hb14.ext hx17
    refine AL.val rfl (.inl rfl) (HV.not rfl) ?_
    refine AL.nx ?_
    refine AW.ifn rfl (fun c21 => ?_) (fun c21 => ?_)
    · -- then
      refine AW.rs ?_
      refine AL.val rfl (.inl rfl) (HV.as rfl) ?_
      refine AL.val rfl (.inl rfl) (HV.as rfl) ?_
      refine AL.nx ?_
      refine AW.ret ?_
      refine ret_and ?_
      refine post_two rfl rfl rfl ?_ (.inr rfl)
      have hv : vG n d z := (by assumption); exact ⟨by rw [if_pos hv, if_neg c21, decide_eq_false (fun q : vG n d z ∧ Ris 0 (n - 1) g ∧ opG (bitN g) d z => c21 q.2.1)], X18⟩
    · -- else
      refine AW.skip ?_
      refine nrm_and ?_
      refine AW.seq ?_
      refine AW.draw' [0, 0, 2, 7, 15, 31] mixed (by rfl) ?_
      refine Dr.read 0 _ 16 _ rfl rfl rfl rfl rfl (RV.of (by intro _ _ h; cases h) (.inl rfl) (fun _ xd => HV.lda (cs := [.int .i64 a, .int .i64 l, v]) rfl va31 (fun j u hu => rdc_ext xd ((at_cells hb20 rfl) j u hu)))) ?_
      refine Dr.read 1 _ 17 _ rfl rfl rfl rfl rfl (RV.of (by intro _ _ h; cases h) (.inl rfl) (fun _ xd => HV.mv rfl)) ?_
      refine Dr.eff 2 _ _ rfl (by intro d h; cases h; exact ⟨rfl, rfl⟩) rfl rfl rfl (EC.of (by intro _ _ h; cases h) (.inl rfl) (WV.call fn57 rfl (crowdN_ok (hr2.ext X18) (by assumption : vG n d z).1 (by assumption : Ris 0 (n - 1) g)))) (fun v H' h => .inl (h.2)) ?_
      rintro _ H22 ⟨rfl, hx23⟩
      have X24 := Ext.trans X18 hx23
      have X25 := Ext.trans X19 hx23
      have hb26 := hb20.ext hx23
      refine Dr.eff 3 _ _ rfl (by intro d h; cases h; exact ⟨rfl, rfl⟩) rfl rfl rfl (EC.of (by intro _ _ h; cases h) (.inl rfl) (WV.call fn56 rfl (iopens_all d (Kd.ext (kG d) hK X24) n (bitN g) (by assumption : vG n d z).1 (bits7 (by assumption : vG n d z).1 (by assumption : Ris 0 (n - 1) g)) (by assumption : vG n d z).2.2.2))) (fun v H' h => .inl (h.2)) ?_
      rintro _ H27 ⟨rfl, hx28⟩
      have X29 := Ext.trans X24 hx28
      have X30 := Ext.trans X25 hx28
      have hb31 := hb26.ext hx28
      refine Dr.read 4 _ 6 _ rfl rfl rfl rfl rfl (RV.of (by intro _ _ h; cases h) (.inl rfl) (fun _ xd => HV.as rfl)) ?_
      refine Dr.read 5 _ 7 _ rfl rfl rfl rfl rfl (RV.of (by intro _ _ h; cases h) (.inl rfl) (fun _ xd => HV.as rfl)) ?_
      refine Dr.fin rfl ?_
      refine nrm_and ?_
      refine AW.ret ?_
      refine post_two rfl rfl rfl ?_ (.inr rfl)
      have hv : vG n d z := (by assumption); have hg : Ris 0 (n - 1) g := (by assumption); exact ⟨by rw [if_pos hv, if_pos hg, show decide (opG (bitN g) d z) = decide (vG n d z ∧ Ris 0 (n - 1) g ∧ opG (bitN g) d z) from decide_eq_decide.2 ⟨fun q => ⟨hv, hg, q⟩, fun q => q.2.2⟩], X29⟩

set_option maxRecDepth 100000 in
theorem law_GateOpens {d : Nat} {ok : Nat → Prop} {z : GT d} {a l : Int} {v : Value} (hK : (kG d).rd W H ok z [.int .i64 a, .int .i64 l, v]) (n : Int) {ok2 : Nat → Prop} {v2 : Value} {g : List Int} (hr2 : RdK kI W H ok2 v2 g) : ACalls Try.prog W 3 #[.int .i64 n, .agg #[.int .i64 a, .int .i64 l, v], v2] H (fun r H' => r = .bool true ∧ Ext H H') := by
  refine ACalls.of (args := [.int .i64 n, .agg #[.int .i64 a, .int .i64 l, v], v2]) Try.func3 rfl rfl ?_
  have X0 := Ext.refl H
  have hm1 := hr2.max
  obtain ⟨_, isl0⟩ := gk_isl hK
  refine AW.rs ?_
  refine AL.w rfl (.inl rfl) (WV.bx rfl rfl) ?_
  rintro _ H3 ⟨b2, rfl, hx4, hn5, hb6⟩
  have o7 := Nat.le_trans X0.bd hn5
  have X8 := Ext.trans X0 hx4
  have X9 := Ext.refl H3
  refine AL.val rfl (.inl rfl) (HV.as rfl) ?_
  refine AL.nx ?_
  refine AW.seq ?_
  refine AW.rs ?_
  refine AL.val rfl (.inl rfl) (HV.mv rfl) ?_
  refine AL.val rfl (.inl rfl) (HV.len Try.underlying25 rfl hr2.isSl) ?_
  refine AL.val rfl (.inl rfl) (HV.gti rfl rfl) ?_
  refine AL.nx ?_
  refine AW.ifd rfl (fun c10 => ?_) (fun c10 => ?_)
  · -- then
    refine AW.rs ?_
    refine AL.val rfl (.inl rfl) (HV.as rfl) ?_
    refine AL.nx ?_
    refine AW.ret ?_
    refine ret_and ?_
    refine post_one rfl rfl ?_ (.inr rfl)
    exact ⟨rfl, X8⟩
  · -- else
    refine AW.skip ?_
    refine nrm_and ?_
    refine AW.rs ?_
    refine AL.val rfl (.inl rfl) (HV.as rfl) ?_
    refine AL.nx ?_
    refine AW.rs ?_
    refine AL.val rfl (.inl rfl) (HV.lda (cs := [.int .i64 a, .int .i64 l, v]) rfl va24 (at_cells hb6 rfl)) ?_
    refine AL.val rfl (.inl rfl) (HV.mv rfl) ?_
    refine AL.w rfl (.inl rfl) (WV.call fn12 rfl (szGate_all d (Kd.ext (kG d) hK X8) 1048576 (by omega))) ?_
    rintro _ H11 ⟨⟨q13, rfl, ha14, hb15, he16⟩, hx12⟩
    have X17 := Ext.trans X8 hx12
    have X18 := Ext.trans X9 hx12
    have hb19 := hb6.ext hx12
    refine AL.val rfl (.inl rfl) (HV.as rfl) ?_
    refine AL.nx ?_
    refine AW.seq ?_
    refine AW.rs ?_
    refine AL.val rfl (.inl rfl) (HV.mv rfl) ?_
    refine AL.val rfl (.inl rfl) (HV.lti rfl rfl) ?_
    refine AL.nx ?_
    refine AW.ifd rfl (fun c20 => ?_) (fun c20 => ?_)
    · -- then
      refine AW.rs ?_
      refine AL.val rfl (.inl rfl) (HV.as rfl) ?_
      refine AL.nx ?_
      refine AW.ret ?_
      refine ret_and ?_
      refine post_one rfl rfl ?_ (.inr rfl)
      exact ⟨rfl, X17⟩
    · -- else
      refine AW.skip ?_
      refine nrm_and ?_
      refine AW.rs ?_
      refine AL.val rfl (.inl rfl) (HV.mv rfl) ?_
      refine AL.val rfl (.inl rfl) (HV.lda (cs := [.int .i64 a, .int .i64 l, v]) rfl va24 (at_cells hb19 rfl)) ?_
      have hsz := he16 (by omega)
      have X21 := Ext.refl H11
      refine AL.w rfl (.inl rfl) (WV.call fn14 rfl (toGate_all d (Kd.ext (kG d) hK X17) (by omega))) ?_
      rintro _ H22 ⟨⟨u24, rfl, hk25⟩, hx23⟩
      have X27 := Ext.trans X17 hx23
      have X28 := Ext.trans X18 hx23
      have X29 := Ext.trans X21 hx23
      have hb30 := hb19.ext hx23
      have X31 := Ext.refl H22
      obtain ⟨_, isl26⟩ := gk_isl hk25
      refine AL.val rfl (.inl rfl) (HV.mv rfl) ?_
      refine AL.w rfl (.inl rfl) (WV.call fn15 rfl (toS_ok (hr2.ext X27) (by omega))) ?_
      rintro v32 H33 ⟨hx34, ho35⟩
      have X37 := Ext.trans X27 hx34
      have X38 := Ext.trans X28 hx34
      have X39 := Ext.trans X29 hx34
      have X40 := Ext.trans X31 hx34
      have hb41 := hb30.ext hx34
      have X42 := Ext.refl H33
      have hr36 := ho35.rd
      refine AL.w rfl (.inl rfl) (WV.call fn13 rfl (specGate_ok (Kd.ext (kG d) hk25 X40) n hr36)) ?_
      rintro _ H43 ⟨rfl, hx44⟩
      have X45 := Ext.trans X37 hx44
      have X46 := Ext.trans X38 hx44
      have X47 := Ext.trans X39 hx44
      have X48 := Ext.trans X40 hx44
      have X49 := Ext.trans X42 hx44
      have hb50 := hb41.ext hx44
      refine AL.val rfl (.inl rfl) (HV.mv rfl) ?_
      refine AL.val rfl (.inl rfl) (HV.ex rfl rfl) ?_
      refine AL.val rfl (.inl rfl) (HV.ex rfl rfl) ?_
      refine AL.val rfl (.inl rfl) (HV.as rfl) ?_
      refine AL.val rfl (.inl rfl) (HV.as rfl) ?_
      refine AL.nx ?_
      refine AW.rs ?_
      refine AL.val rfl (.inl rfl) (HV.lda (cs := [.int .i64 a, .int .i64 l, v]) rfl va24 (at_cells hb50 rfl)) ?_
      have X51 := Ext.refl H43
      refine AL.w rfl (.inl rfl) (WV.call fn14 rfl (toGate_all d (Kd.ext (kG d) hK X45) (by omega))) ?_
      rintro _ H52 ⟨⟨u54, rfl, hk55⟩, hx53⟩
      have X57 := Ext.trans X45 hx53
      have X58 := Ext.trans X46 hx53
      have X59 := Ext.trans X47 hx53
      have X60 := Ext.trans X48 hx53
      have X61 := Ext.trans X49 hx53
      have X62 := Ext.trans X51 hx53
      have hb63 := hb50.ext hx53
      have X64 := Ext.refl H52
      obtain ⟨_, isl56⟩ := gk_isl hk55
      refine AL.w rfl (.inl rfl) (WV.al ze31 rfl) ?_
      rintro _ H66 ⟨b65, rfl, hx67, hn68, hb69⟩
      have o70 := Nat.le_trans X57.bd hn68
      have o71 := Nat.le_trans X58.bd hn68
      have o72 := Nat.le_trans X59.bd hn68
      have o73 := Nat.le_trans X60.bd hn68
      have o74 := Nat.le_trans X61.bd hn68
      have o75 := Nat.le_trans X62.bd hn68
      have o76 := Nat.le_trans X64.bd hn68
      have ne77 : b2 ≠ b65 := by have := hb63.lt; omega
      have X78 := Ext.trans X57 hx67
      have X79 := Ext.trans X58 hx67
      have X80 := Ext.trans X59 hx67
      have X81 := Ext.trans X60 hx67
      have X82 := Ext.trans X61 hx67
      have X83 := Ext.trans X62 hx67
      have X84 := Ext.trans X64 hx67
      have hb85 := hb63.ext hx67
      have X86 := Ext.refl H66
      refine AL.w0 (.inl rfl) (WV.st rfl rfl va31 rfl hb69 (Nat.le_of_ble_eq_true rfl) (one_cons rfl (one_cons rfl (one_cons (sl_one1 (isl56.ext X84).isSl) one_nil)))) ?_
      rintro _ H87 ⟨hx88, hb89⟩
      have X90 := Ext.thru X78 hx88 (fun z_ hz_ => by rw [hz_]; exact o70)
      have X91 := Ext.thru X79 hx88 (fun z_ hz_ => by rw [hz_]; exact o71)
      have X92 := Ext.thru X80 hx88 (fun z_ hz_ => by rw [hz_]; exact o72)
      have X93 := Ext.thru X81 hx88 (fun z_ hz_ => by rw [hz_]; exact o73)
      have X94 := Ext.thru X82 hx88 (fun z_ hz_ => by rw [hz_]; exact o74)
      have X95 := Ext.thru X83 hx88 (fun z_ hz_ => by rw [hz_]; exact o75)
      have X96 := Ext.thru X84 hx88 (fun z_ hz_ => by rw [hz_]; exact o76)
      have hb98 := hb85.but hx88 ne77
      have hb99 : At W H87 b65 ⟨31, [.int .i64 a, .int .i64 l, u54], 3⟩ := hb89
      refine AL.nx ?_
      refine AW.rs ?_
      refine AL.val rfl (.inl rfl) (HV.mv rfl) ?_
      refine AL.w rfl (.inl rfl) (WV.call fn15 rfl (toS_ok (hr2.ext X90) (by omega))) ?_
      rintro v100 H101 ⟨hx102, ho103⟩
      have X105 := Ext.trans X90 hx102
      have X106 := Ext.trans X91 hx102
      have X107 := Ext.trans X92 hx102
      have X108 := Ext.trans X93 hx102
      have X109 := Ext.trans X94 hx102
      have X110 := Ext.trans X95 hx102
      have X111 := Ext.trans X96 hx102
      have hb112 := hb98.ext hx102
      have hb113 := hb99.ext hx102
      have X114 := Ext.refl H101
      have hr104 := ho103.rd
      refine AL.val rfl (.inl rfl) (HV.as rfl) ?_
      refine AL.nx ?_
      refine AW.rs ?_
      refine AL.val rfl (.inl rfl) (HV.mv rfl) ?_
      refine AL.val rfl (.inl rfl) (HV.lda (cs := [.int .i64 a, .int .i64 l, u54]) rfl va31 (at_cells hb113 rfl)) ?_
      refine AL.val rfl (.inl rfl) (HV.mv rfl) ?_
      refine AL.w rfl (.inl rfl) (WV.call fn16 rfl (implGate_ok (Kd.ext (kG d) hk55 X111) n (by omega) hr104)) ?_
      rintro _ H115 ⟨rfl, hx116⟩
      have X117 := Ext.trans X105 hx116
      have X118 := Ext.trans X106 hx116
      have X119 := Ext.trans X107 hx116
      have X120 := Ext.trans X108 hx116
      have X121 := Ext.trans X109 hx116
      have X122 := Ext.trans X110 hx116
      have X123 := Ext.trans X111 hx116
      have X124 := Ext.trans X114 hx116
      have hb125 := hb112.ext hx116
      have hb126 := hb113.ext hx116
      refine AL.val rfl (.inl rfl) (HV.mv rfl) ?_
      refine AL.val rfl (.inl rfl) (HV.ex rfl rfl) ?_
      refine AL.val rfl (.inl rfl) (HV.ex rfl rfl) ?_
      refine AL.val rfl (.inl rfl) (HV.as rfl) ?_
      refine AL.val rfl (.inl rfl) (HV.as rfl) ?_
      refine AL.nx ?_
      refine AW.seq ?_
      refine AW.rs ?_
      refine AL.val rfl (.inl rfl) (HV.mv rfl) ?_
      refine AL.val rfl (.inl rfl) (HV.mv rfl) ?_
      refine AL.val rfl (.inl rfl) (HV.neb Try.underlying4 rfl rfl) ?_
      refine AL.val rfl (.inl rfl) (HV.mv rfl) ?_
      cases c127 : !(decide (vG n d z ∧ Ris 0 (n - 1) g ∧ opG (bitN g) d z) == decide (vG n d z ∧ Ris 0 (n - 1) g ∧ opG (bitN g) d z))
      · -- false
        refine AL.val rfl (.inr ⟨_, _, _, rfl, rfl, rfl⟩) (HV.mv rfl) ?_
        refine AL.val rfl (.inr ⟨_, _, _, rfl, rfl, rfl⟩) (HV.mv rfl) ?_
        refine AL.val rfl (.inr ⟨_, _, _, rfl, rfl, rfl⟩) (HV.nei rfl rfl) ?_
        refine AL.val rfl (.inl rfl) (HV.pickF rfl rfl) ?_
        refine AL.nx ?_
        refine AW.ifd rfl (fun c128 => ?_) (fun c128 => ?_)
        · -- then
          refine AW.rs ?_
          refine AL.val rfl (.inl rfl) (HV.as rfl) ?_
          refine AL.nx ?_
          refine AW.ret ?_
          refine ret_and ?_
          refine post_one rfl rfl ?_ (.inr rfl)
          exact absurd c128 (by simp)
        · -- else
          refine AW.skip ?_
          refine nrm_and ?_
          refine AW.seq ?_
          refine AW.seq ?_
          refine AW.draw' [0, 0, 2, 7, 15] mixed (by rfl) ?_
          refine Dr.read 0 _ 50 _ rfl rfl rfl rfl rfl (RV.of (by intro _ _ h; cases h) (.inl rfl) (fun _ xd => HV.lda (cs := [.int .i64 a, .int .i64 l, u54]) rfl va31 (fun j u hu => rdc_ext xd ((at_cells hb126 rfl) j u hu)))) ?_
          refine Dr.read 1 _ 51 _ rfl rfl rfl rfl rfl (RV.of (by intro _ _ h; cases h) (.inl rfl) (fun _ xd => HV.lda (cs := [.int .i64 a, .int .i64 l, v]) rfl va24 (fun j u hu => rdc_ext xd ((at_cells hb125 rfl) j u hu)))) ?_
          have X129 := Ext.refl H115
          refine Dr.eff 2 _ _ rfl (by intro d h; cases h; exact ⟨rfl, rfl⟩) rfl rfl rfl (EC.of (by intro _ _ h; cases h) (.inl rfl) (WV.call fn14 rfl (toGate_all d (Kd.ext (kG d) hK X117) (by omega)))) (fun v H' h => .inl (h.2)) ?_
          rintro _ H130 ⟨⟨u132, rfl, hk133⟩, hx131⟩
          have X135 := Ext.trans X117 hx131
          have X136 := Ext.trans X118 hx131
          have X137 := Ext.trans X119 hx131
          have X138 := Ext.trans X120 hx131
          have X139 := Ext.trans X121 hx131
          have X140 := Ext.trans X122 hx131
          have X141 := Ext.trans X123 hx131
          have X142 := Ext.trans X124 hx131
          have X143 := Ext.trans X129 hx131
          have hb144 := hb125.ext hx131
          have hb145 := hb126.ext hx131
          have X146 := Ext.refl H130
          obtain ⟨_, isl134⟩ := gk_isl hk133
          refine Dr.eff 3 _ _ rfl (by intro d h; cases h; exact ⟨rfl, rfl⟩) rfl rfl rfl (EC.of (by intro _ _ h; cases h) (.inl rfl) (WV.call fn17 rfl (eqGate_all d (Kd.ext (kG d) hk55 X141) hk133))) (fun v H' h => .inl (h.2)) ?_
          rintro _ H147 ⟨rfl, hx148⟩
          have X149 := Ext.trans X135 hx148
          have X150 := Ext.trans X136 hx148
          have X151 := Ext.trans X137 hx148
          have X152 := Ext.trans X138 hx148
          have X153 := Ext.trans X139 hx148
          have X154 := Ext.trans X140 hx148
          have X155 := Ext.trans X141 hx148
          have X156 := Ext.trans X142 hx148
          have X157 := Ext.trans X143 hx148
          have X158 := Ext.trans X146 hx148
          have hb159 := hb144.ext hx148
          have hb160 := hb145.ext hx148
          refine Dr.read 4 _ 54 _ rfl rfl rfl rfl rfl (RV.of (by intro _ _ h; cases h) (.inl rfl) (fun _ xd => HV.not rfl)) ?_
          refine Dr.fin rfl ?_
          refine nrm_and ?_
          refine AW.cond rfl (fun c161 => ?_) (fun c161 => ?_)
          · -- then
            refine AW.rs ?_
            refine AL.val rfl (.inl rfl) (HV.as rfl) ?_
            refine AL.nx ?_
            refine AW.ret ?_
            refine ret_and ?_
            refine post_one rfl rfl ?_ (.inr rfl)
            exact absurd c161 (by simp)
          · -- else
            refine AW.skip ?_
            refine nrm_and ?_
            refine AW.seq ?_
            refine AW.rs ?_
            refine AL.val rfl (.inl rfl) (HV.mv rfl) ?_
            refine AL.val rfl (.inl rfl) (HV.mv rfl) ?_
            refine AL.w rfl (.inl rfl) (WV.call fn15 rfl (toS_ok (hr2.ext X149) (by omega))) ?_
            rintro v162 H163 ⟨hx164, ho165⟩
            have X167 := Ext.trans X149 hx164
            have X168 := Ext.trans X150 hx164
            have X169 := Ext.trans X151 hx164
            have X170 := Ext.trans X152 hx164
            have X171 := Ext.trans X153 hx164
            have X172 := Ext.trans X154 hx164
            have X173 := Ext.trans X155 hx164
            have X174 := Ext.trans X156 hx164
            have X175 := Ext.trans X157 hx164
            have X176 := Ext.trans X158 hx164
            have hb177 := hb159.ext hx164
            have hb178 := hb160.ext hx164
            have X179 := Ext.refl H163
            have hr166 := ho165.rd
            refine AL.w rfl (.inl rfl) (WV.call fn18 rfl (eqS_ok (hr104.ext X174) hr166)) ?_
            rintro _ H180 ⟨rfl, hx181⟩
            have X182 := Ext.trans X167 hx181
            have X183 := Ext.trans X168 hx181
            have X184 := Ext.trans X169 hx181
            have X185 := Ext.trans X170 hx181
            have X186 := Ext.trans X171 hx181
            have X187 := Ext.trans X172 hx181
            have X188 := Ext.trans X173 hx181
            have X189 := Ext.trans X174 hx181
            have X190 := Ext.trans X175 hx181
            have X191 := Ext.trans X176 hx181
            have X192 := Ext.trans X179 hx181
            have hb193 := hb177.ext hx181
            have hb194 := hb178.ext hx181
            refine AL.val rfl (.inl rfl) (HV.not rfl) ?_
            refine AL.nx ?_
            refine AW.ifn rfl (fun c195 => ?_) (fun c195 => ?_)
            · -- then
              refine AW.rs ?_
              refine AL.val rfl (.inl rfl) (HV.as rfl) ?_
              refine AL.nx ?_
              refine AW.ret ?_
              refine ret_and ?_
              refine post_one rfl rfl ?_ (.inr rfl)
              exact absurd c195 (by simp)
            · -- else
              refine AW.skip ?_
              refine nrm_and ?_
              refine AW.rs ?_
              refine AL.val rfl (.inl rfl) (HV.as rfl) ?_
              refine AL.nx ?_
              refine AW.ret ?_
              refine post_one rfl rfl ?_ (.inr rfl)
              exact ⟨rfl, X182⟩
      · -- true
        refine AL.off rfl rfl (by decide) rfl ?_
        refine AL.off rfl rfl (by decide) rfl ?_
        refine AL.off rfl rfl (by decide) rfl ?_
        refine AL.val rfl (.inl rfl) (HV.pickT rfl rfl) ?_
        refine AL.nx ?_
        refine AW.cond rfl (fun _ => ?_) (fun h => by cases h)
        refine AW.rs ?_
        refine AL.val rfl (.inl rfl) (HV.as rfl) ?_
        refine AL.nx ?_
        refine AW.ret ?_
        refine ret_and ?_
        refine post_one rfl rfl ?_ (.inr rfl)
        exact absurd c127 (by simp)
end Go.Proofs.Ytbjcgcililpfdaa.VC
