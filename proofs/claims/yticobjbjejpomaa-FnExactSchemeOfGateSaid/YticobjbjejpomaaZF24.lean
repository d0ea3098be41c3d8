/- Walks. -/
import Derived.Test.YticobjbjejpomaaZF23
set_option linter.unusedVariables false
set_option linter.unusedSimpArgs false
namespace Go.Proofs.Yticobjbjejpomaa.VC
open Go Go.RowKit
variable {W : World} {H : Hp}
/-! ### Gates that are the call's own: they may be marked -/
def kGf : (d : Nat) → Kd (GT d)
  | 0 =>
    { sz := 3
      rd := fun _ _ _ _ _ => False
      len := fun h => h.elim
      one := fun h => h.elim
      but := fun _ _ _ h => h.elim
      okk := fun _ h => h.elim }
  | d + 1 => kP kI (kP kI (kO 61 (kGf d)))
theorem kGf_sz : ∀ d, (kGf d).sz = 3
  | 0 => rfl
  | d + 1 => rfl
theorem kGf_succ {d : Nat} {ok : Nat → Prop} {x : Int × Int × List (GT d)} {cs : List Value} : (kGf (d + 1)).rd W H ok x cs ↔ ∃ v, cs = [.int .i64 x.1, .int .i64 x.2.1, v] ∧ OwnK (kGf d) 61 W H ok v x.2.2 := by
  constructor
  · rintro ⟨c1, c2, rfl, h1, c3, c4, rfl, h2, v, rfl, h3⟩
    have e1 : c1 = [.int .i64 x.1] := h1
    have e2 : c3 = [.int .i64 x.2.1] := h2
    subst e1; subst e2
    exact ⟨v, rfl, h3⟩
  · rintro ⟨v, rfl, h⟩
    exact ⟨[_], [_, _], rfl, rfl, [_], [_], rfl, rfl, v, rfl, h⟩
theorem kGf_cells {d : Nat} {ok : Nat → Prop} {z : GT d} {cs : List Value} (h : (kGf d).rd W H ok z cs) : ∃ a l v n, cs = [.int .i64 a, .int .i64 l, v] ∧ IsSl v n := by
  cases d with
  | zero => exact h.elim
  | succ d =>
    obtain ⟨v, e, h2⟩ := kGf_succ.1 h
    exact ⟨_, _, v, _, e, h2.isSl⟩
theorem kGf_kids {d : Nat} {ok : Nat → Prop} {z : GT d} {a l : Int} {u : Value} (h : (kGf d).rd W H ok z [.int .i64 a, .int .i64 l, u]) : ∃ (d' : Nat) (ks : List (GT d')), d = d' + 1 ∧ OwnK (kGf d') 61 W H ok u ks ∧ szG d z = 1 + szL d' ks := by
  cases d with
  | zero => exact h.elim
  | succ d =>
    obtain ⟨v, e, h2⟩ := kGf_succ.1 h
    obtain ⟨x, y, ks⟩ := z
    simp only [List.cons.injEq, Value.int.injEq, true_and, and_true] at e
    obtain ⟨rfl, rfl, rfl⟩ := e
    exact ⟨d, ks, rfl, h2, szG_succ⟩
theorem le_Gf : ∀ d, Le (kGf d) (kG d)
  | 0 => ⟨rfl, fun _ _ _ _ _ h => h.elim⟩
  | d + 1 => le_P (Le.refl _) (le_P (Le.refl _) (le_OR (le_Gf d)))
theorem own_ofC {α : Type} {K : Kd α} {e n : Nat} {ok okx : Nat → Prop} {v : Value} {css : List (List Value)} {l : List α} (hn : K.sz = n) (h : OwnK (kC n) e W H okx v css) (hl : css.length = l.length) (hr : ∀ (j : Nat) (x : α) (cs : List Value), l[j]? = some x → css[j]? = some cs → K.rd W H (fun b => ok b ∧ some b ≠ v.ownBlock) x cs) (hok : ∀ b, okx b → ok b) : OwnK K e W H ok v l := by
  obtain ⟨css', h1, h2⟩ := h
  have e1 : css' = css := by
    apply List.ext_getElem h1.1
    intro j a1 a2
    have := h1.2 j _ _ (List.getElem?_eq_getElem a2) (List.getElem?_eq_getElem a1)
    exact this.1
  subst e1
  refine ⟨css', ⟨hl, fun i x cs q1 q2 => hr i x cs q1 q2⟩, ?_⟩
  rw [← hl, hn]
  exact h2.ok (fun b hb _ => hok b hb)
theorem mq_num {H0 : Hp} {ok : Nat → Prop} {q : Addr} {a : Int} (h : Mq W H0 H ok) (hr : rdc W H0 q = some (.int .i64 a)) (hok : ok q.block) : ∃ a', rdc W H q = some (.int .i64 a') := by
  obtain ⟨b, o, sp⟩ := q
  cases sp with
  | some z => simp [rdc] at hr
  | none => exact (h b o hok).1 a hr
theorem mq_row {H0 : Hp} {ok : Nat → Prop} {q : Addr} {v : Value} {n : Nat} (h : Mq W H0 H ok) (hs : IsSl v n) (hr : rdc W H0 q = some v) (hok : ok q.block) : rdc W H q = some v := by
  obtain ⟨b, o, sp⟩ := q
  cases sp with
  | some z => simp [rdc] at hr
  | none => exact (h b o hok).2 v n hs hr
theorem gf_up {d : Nat} {ok : Nat → Prop} {z : GT d} {cs : List Value} (h : (kGf d).rd W H ok z cs) : (kG d).rd W H ok z cs := (le_Gf d).2 _ _ _ _ _ h
variable {W : World} {H : Hp}

set_option maxRecDepth 100000 in
theorem toGateSF_of {d : Nat} (ih : ∀ {W : World} {H : Hp} {ok : Nat → Prop} {z : GT d} {a l : Int} {v : Value} (hK : (kG d).rd W H ok z [.int .i64 a, .int .i64 l, v]) (hs : szG d z ≤ 1048577), ACalls Try.prog W 38 #[.agg #[.int .i64 a, .int .i64 l, v]] H (fun r H' => (∃ u, r = .agg #[.int .i64 a, .int .i64 l, u] ∧ (kGf d).rd W H' (fun b => H.bd ≤ b) z [.int .i64 a, .int .i64 l, u]) ∧ Ext H H')) {v : Value} {ks : List (GT d)} {ok : Nat → Prop} (hr : RdK (kG d) W H ok v ks) (hs : szL d ks ≤ 1048576) : ACalls Try.prog W 102 #[v] H (fun r H' => Ext H H' ∧ OwnK (kGf d) 61 W H' (fun b => H.bd ≤ b) r ks) := by
  refine ACalls.of (args := [v]) Try.func102 rfl rfl ?_
  have X0 := Ext.refl H
  have hm1 := hr.max
  have sl54 : SlT Try.prog 54 56 (.agg #[(.int .i64 0), (.int .i64 0), (.slice none 0 0)]) (kG d).sz 40 := by rw [kG_sz]; exact sl54
  have hkl := szL_len ks
  refine AW.rs ?_
  refine AL.val rfl (.inl rfl) (HV.as rfl) ?_
  refine AL.nx ?_
  refine AW.rs ?_
  refine AL.val rfl (.inl rfl) (HV.mv rfl) ?_
  refine AL.val rfl (.inl rfl) (HV.len Try.underlying54 rfl hr.isSl) ?_
  have o2 := X0.bd
  refine AL.w rfl (.inl rfl) (WV.mkKn (K := kC 3) ([.int .i64 0, .int .i64 0, .slice none 0 0] : List Value) (fun _ _ _ => ⟨rfl, rfl, one_cons rfl (one_cons rfl (one_cons rfl one_nil))⟩) sl59 rfl rfl (by omega) (by omega) (by omega)) ?_
  rintro v3 H4 ⟨hx5, ho6⟩
  have X7 := Ext.trans X0 hx5
  have X8 := Ext.refl H4
  have lt10 := ho6.ltb
  refine AL.val rfl (.inl rfl) (HV.as rfl) ?_
  refine AL.nx ?_
  refine AW.seq ?_
  refine AW.rs ?_
  refine AL.val rfl (.inl rfl) (HV.as rfl) ?_
  refine AL.nx ?_
  refine AW.block ?_
  have ho11 := ho6.okk (ok' := fun b => H.bd ≤ b ∧ b < H4.bd) (fun b hb hlt => ⟨hb, hlt⟩)
  refine AW.loop (σ := Nat × List (List Value)) (fun ⟨i, k⟩ => [(0, v), (2, (.slice none 0 0)), (3, v3), (3, v3), (4, .int .i64 (i : Int))]) (fun ⟨i, k⟩ H' => Ext H H' ∧ i ≤ ks.length ∧ k.length = ks.length ∧ (∀ (j : Nat) (x : GT d) (cs : List Value), j < i → ks[j]? = some x → k[j]? = some cs → (kGf d).rd W H' (fun b => H4.bd ≤ b) x cs) ∧ OwnK (kC 3) 61 W H' (fun b => H.bd ≤ b ∧ b < H4.bd) v3 k ∧ H4.bd ≤ H'.bd ∧ True) (fun ⟨i, k⟩ => ks.length - i) (0, (List.replicate (ks.length : Int).toNat ([.int .i64 0, .int .i64 0, .slice none 0 0] : List Value))) ⟨X7, Nat.zero_le _, by simp, fun j x cs hj => absurd hj (Nat.not_lt_zero _), ho11, Nat.le_refl _, trivial⟩ ⟨rfl, rfl, rfl, rfl, rfl, trivial⟩ ?_
  rintro ⟨i, k⟩ H12 ⟨X13, hi, hk, he, hoL, hmb, _⟩
  have X14 := Ext.refl H12
  refine AW.seq ?_
  refine AW.rs ?_
  refine AL.val rfl (.inl rfl) (HV.mv rfl) ?_
  refine AL.val rfl (.inl rfl) (HV.mv rfl) ?_
  refine AL.val rfl (.inl rfl) (HV.len Try.underlying54 rfl hr.isSl) ?_
  refine AL.val rfl (.inl rfl) (HV.lti rfl rfl) ?_
  refine AL.nx ?_
  refine AW.ifd rfl (fun c15 => ?_) (fun c15 => ?_)
  · -- then
    refine AW.skip ?_
    refine nrm_and ?_
    refine AW.seq ?_
    refine AW.block ?_
    refine AW.reg ?_
    refine AL.val rfl (.inl rfl) (HV.mv rfl) ?_
    refine AL.val rfl (.inl rfl) (HV.mv rfl) ?_
    refine AL.val rfl (.inl rfl) (HV.mv rfl) ?_
    refine AL.val rfl (.inl rfl) (HV.mv rfl) ?_
    obtain ⟨p16, z17, cs18, hz19, hK20, hC21, hP22⟩ := RdK.ix (q := (i : Int)) hr sl54 (by omega) (by omega)
    obtain ⟨a23, l24, v25, n26, rfl, isl27⟩ := kG_cells hK20
    refine AL.val rfl (.inl rfl) (hP22 rfl rfl) ?_
    refine AL.val rfl (.inl rfl) (HV.lda (cs := [.int .i64 a23, .int .i64 l24, v25]) rfl va56 (hC21.ext X13)) ?_
    have q28 := Nat.le_trans hmb X14.bd
    refine AL.w rfl (.inl rfl) (WV.call fn38 rfl (ih (Kd.ext (kG d) hK20 X13) (by have := szL_mem (List.mem_of_getElem? hz19); omega))) ?_
    rintro _ H29 ⟨⟨u31, rfl, hk32⟩, hx30⟩
    have X33 := Ext.trans X13 hx30
    have X34 := Ext.trans X14 hx30
    have ho35 := hoL.ext hx30
    have X36 := Ext.refl H29
    obtain ⟨g37, z38, cs39, hz40, hK41, hC42, hg43, hP44⟩ := OwnK.ix (q := (i : Int)) ho35 sl59 (by omega) (by omega)
    refine AL.val rfl (.inl rfl) (hP44 rfl rfl) ?_
    obtain ⟨_, isl50⟩ : ∃ n, IsSl u31 n := by obtain ⟨a_, l_, v_, n_, e_, h_⟩ := kGf_cells hk32; cases e_; exact ⟨n_, h_⟩
    refine AL.w0 (.inl rfl) (WV.stK (okx := fun _ => False) (x' := [.int .i64 a23, .int .i64 l24, u31]) ho35 hg43 rfl rfl va61 (by omega) ⟨rfl, rfl, one_cons rfl (one_cons rfl (one_cons (sl_one1 isl50) one_nil))⟩ (fun _ h => h.elim)) ?_
    rintro _ H45 ⟨hx46, ho47⟩
    have q49 := Nat.le_trans q28 (Nat.le_trans hx30.bd hx46.bd)
    have X51 := Ext.thru X33 hx46 (fun b hb => Nat.le_trans o2 (ho35.blk b hb).1.1)
    have ho48 := ho47.okk (ok' := fun b => H.bd ≤ b ∧ b < H4.bd) (fun b hb _ => hb.elim id False.elim)
    refine AL.nil ?_
    refine nrm_blk (nrm_and ?_)
    refine AW.reg ?_
    refine AL.val rfl (.inl rfl) (HV.mv rfl) ?_
    refine AL.val rfl (.inl rfl) (HV.add rfl rfl (by omega)) ?_
    refine AL.val rfl (.inl rfl) (HV.as rfl) ?_
    refine AL.nil ?_
    refine nrm_and ?_
    exact ⟨(i + 1, (k.set ((i : Int) : Int).toNat [.int .i64 a23, .int .i64 l24, u31])), ⟨X51, by omega, by simp [hk], fun j x cs hj h1 h2 => by
      by_cases ej : ((i : Nat) : Int).toNat = j
      · rw [List.getElem?_set, if_pos ej, if_pos (by rw [hk]; omega)] at h2
        cases h2
        have ez : x = z17 := Option.some.inj (h1.symm.trans (by rw [← ej]; exact hz19)); rw [ez]
        exact (kGf d).but hx46 (fun b hb' _ e => by have h3 := (ho35.blk b e).1.2; have h4 : H4.bd ≤ b := hb'; omega) (fun b e => (ho35.blk b e).2.2) ((kGf d).okk (fun b hb' _ => Nat.le_trans q28 hb') hk32)
      · rw [List.getElem?_set, if_neg ej] at h2
        have hj2 : j < i := by
          rcases Nat.lt_or_ge j i with q | q
          · exact q
          · exact absurd (show (((i : Nat) : Int)).toNat = j by omega) ej
        exact (kGf d).but hx46 (fun b hb' _ e => by have h3 := (ho35.blk b e).1.2; have h4 : H4.bd ≤ b := hb'; omega) (fun b e => (ho35.blk b e).2.2) (Kd.ext (kGf d) (he j x cs hj2 h1 h2) hx30), ho48, q49, trivial⟩, by first | omega | (dsimp only; omega), ⟨rfl, rfl, rfl, rfl, rfl, trivial⟩⟩
  · -- else
    refine AW.exit ?_
    refine ex_and (ex_and (ex_blk ?_))
    refine nrm_and ?_
    refine AW.rs ?_
    refine AL.val rfl (.inl rfl) (HV.mv rfl) ?_
    refine AL.val rfl (.inl rfl) (HV.as rfl) ?_
    refine AL.nx ?_
    refine AW.ret ?_
    refine post_one rfl rfl ?_ (.inr rfl)
    exact ⟨X13, own_ofC (kGf_sz d) hoL hk (fun j x cs h1 h2 => (kGf d).okk (fun b hb _ => ⟨Nat.le_trans (Nat.le_trans o2 hx5.bd) hb, fun e => by have q1 := (hoL.blk b e).1.2; have q2 : H4.bd ≤ b := hb; omega⟩) (he j x cs (by have := (List.getElem?_eq_some_iff.1 h1).1; omega) h1 h2)) (fun b hb => Nat.le_trans o2 hb.1)⟩

set_option maxRecDepth 100000 in
theorem toGateF_of {d : Nat} (ih : ∀ {W : World} {H : Hp} {ok : Nat → Prop} {z : GT d} {a l : Int} {v : Value} (hK : (kG d).rd W H ok z [.int .i64 a, .int .i64 l, v]) (hs : szG d z ≤ 1048577), ACalls Try.prog W 38 #[.agg #[.int .i64 a, .int .i64 l, v]] H (fun r H' => (∃ u, r = .agg #[.int .i64 a, .int .i64 l, u] ∧ (kGf d).rd W H' (fun b => H.bd ≤ b) z [.int .i64 a, .int .i64 l, u]) ∧ Ext H H')) {h l : Int} {v : Value} {ks : List (GT d)} {ok : Nat → Prop} (hr : RdK (kG d) W H ok v ks) (hs : szG (d + 1) (h, l, ks) ≤ 1048577) : ACalls Try.prog W 38 #[.agg #[.int .i64 h, .int .i64 l, v]] H (fun r H' => (∃ u, r = .agg #[.int .i64 h, .int .i64 l, u] ∧ (kGf (d + 1)).rd W H' (fun b => H.bd ≤ b) (h, l, ks) [.int .i64 h, .int .i64 l, u]) ∧ Ext H H') := by
  refine ACalls.of (args := [.agg #[.int .i64 h, .int .i64 l, v]]) Try.func38 rfl rfl ?_
  have X0 := Ext.refl H
  have hm1 := hr.max
  refine AW.rs ?_
  refine AL.w rfl (.inl rfl) (WV.bx rfl rfl) ?_
  rintro _ H3 ⟨b2, rfl, hx4, hn5, hb6⟩
  have o7 := Nat.le_trans X0.bd hn5
  have X8 := Ext.trans X0 hx4
  have X9 := Ext.refl H3
  refine AL.w rfl (.inl rfl) (WV.al ze61 rfl) ?_
  rintro _ H11 ⟨b10, rfl, hx12, hn13, hb14⟩
  have o15 := Nat.le_trans X8.bd hn13
  have o16 := Nat.le_trans X9.bd hn13
  have ne17 : b2 ≠ b10 := by have := hb6.lt; omega
  have X18 := Ext.trans X8 hx12
  have X19 := Ext.trans X9 hx12
  have hb20 := hb6.ext hx12
  have X21 := Ext.refl H11
  refine AL.nx ?_
  refine AW.rs ?_
  refine AL.w rfl (.inl rfl) (WV.al ze61 rfl) ?_
  rintro _ H23 ⟨b22, rfl, hx24, hn25, hb26⟩
  have o27 := Nat.le_trans X18.bd hn25
  have o28 := Nat.le_trans X19.bd hn25
  have o29 := Nat.le_trans X21.bd hn25
  have ne30 : b2 ≠ b22 := by have := hb20.lt; omega
  have ne31 : b10 ≠ b22 := by have := hb14.lt; omega
  have X32 := Ext.trans X18 hx24
  have X33 := Ext.trans X19 hx24
  have X34 := Ext.trans X21 hx24
  have hb35 := hb20.ext hx24
  have hb36 := hb14.ext hx24
  have X37 := Ext.refl H23
  refine AL.nx ?_
  refine AW.rs ?_
  refine AL.val rfl (.inl rfl) (HV.fa fl56_0 rfl) ?_
  refine AL.val rfl (.inl rfl) (HV.ld rfl va2 (at_cell hb35 rfl)) ?_
  refine AL.val rfl (.inl rfl) (HV.fa fl61_0 rfl) ?_
  refine AL.w0 (.inl rfl) (WV.st rfl rfl va2 rfl hb26 (Nat.le_of_ble_eq_true rfl) (one_cons rfl one_nil)) ?_
  rintro _ H38 ⟨hx39, hb40⟩
  have X41 := Ext.thru X32 hx39 (fun z_ hz_ => by rw [hz_]; exact o27)
  have X42 := Ext.thru X33 hx39 (fun z_ hz_ => by rw [hz_]; exact o28)
  have X43 := Ext.thru X34 hx39 (fun z_ hz_ => by rw [hz_]; exact o29)
  have hb45 := hb35.but hx39 ne30
  have hb46 := hb36.but hx39 ne31
  have hb47 : At W H38 b22 ⟨61, [.int .i64 h, .int .i64 0, (.slice none 0 0)], 3⟩ := hb40
  refine AL.nx ?_
  refine AW.rs ?_
  refine AL.val rfl (.inl rfl) (HV.fa fl56_1 rfl) ?_
  refine AL.val rfl (.inl rfl) (HV.ld rfl va2 (at_cell_add (j := 1) hb45 rfl)) ?_
  refine AL.val rfl (.inl rfl) (HV.fa fl61_1 rfl) ?_
  refine AL.w0 (.inl rfl) (WV.st rfl rfl va2 rfl hb47 (Nat.le_of_ble_eq_true rfl) (one_cons rfl one_nil)) ?_
  rintro _ H48 ⟨hx49, hb50⟩
  have X51 := Ext.thru X41 hx49 (fun z_ hz_ => by rw [hz_]; exact o27)
  have X52 := Ext.thru X42 hx49 (fun z_ hz_ => by rw [hz_]; exact o28)
  have X53 := Ext.thru X43 hx49 (fun z_ hz_ => by rw [hz_]; exact o29)
  have hb54 := hb45.but hx49 ne30
  have hb55 := hb46.but hx49 ne31
  have hb56 : At W H48 b22 ⟨61, [.int .i64 h, .int .i64 l, (.slice none 0 0)], 3⟩ := hb50
  refine AL.nx ?_
  refine AW.rs ?_
  refine AL.val rfl (.inl rfl) (HV.fa fl56_2 rfl) ?_
  refine AL.val rfl (.inl rfl) (HV.ld rfl va54 (at_cell_add (j := 2) hb54 rfl)) ?_
  have X57 := Ext.refl H48
  have y58 := hb54.lt
  have y59 := hb55.lt
  have y60 := hb56.lt
  have o61 := X51.bd
  have o62 := X52.bd
  have o63 := X53.bd
  have o64 := X57.bd
  refine AL.w rfl (.inl rfl) (WV.call fn102 rfl (toGateSF_of ih (hr.ext X51) (by rw [szG_succ] at hs; omega))) ?_
  rintro v65 H66 ⟨hx67, ho68⟩
  have X69 := Ext.trans X51 hx67
  have X70 := Ext.trans X52 hx67
  have X71 := Ext.trans X53 hx67
  have X72 := Ext.trans X57 hx67
  have hb73 := hb54.ext hx67
  have hb74 := hb55.ext hx67
  have hb75 := hb56.ext hx67
  refine AL.val rfl (.inl rfl) (HV.fa fl61_2 rfl) ?_
  refine AL.w0 (.inl rfl) (WV.st rfl rfl va59 (sl_size ho68.isSl) hb75 (Nat.le_of_ble_eq_true rfl) (sl_one ho68.isSl)) ?_
  rintro _ H77 ⟨hx78, hb79⟩
  rw [sl_cells ho68.isSl] at hb79
  have X80 := Ext.thru X69 hx78 (fun z_ hz_ => by rw [hz_]; exact o27)
  have X81 := Ext.thru X70 hx78 (fun z_ hz_ => by rw [hz_]; exact o28)
  have X82 := Ext.thru X71 hx78 (fun z_ hz_ => by rw [hz_]; exact o29)
  have ho84 := ho68.but hx78 (fun b hb _ e => by have h1 : H48.bd ≤ b := hb; have e' : b = b22 := e; omega) (fun z_ hz_ => by rw [hz_]; exact hb75.w)
  have hb85 := hb73.but hx78 ne30
  have hb86 := hb74.but hx78 ne31
  have hb87 : At W H77 b22 ⟨61, [.int .i64 h, .int .i64 l, v65], 3⟩ := hb79
  refine AL.nx ?_
  refine AW.rs ?_
  refine AL.val rfl (.inl rfl) (HV.lda (cs := [.int .i64 h, .int .i64 l, v65]) rfl va61 (at_cells hb87 rfl)) ?_
  refine AL.w0 (.inl rfl) (WV.st rfl rfl va61 rfl hb86 (Nat.le_of_ble_eq_true rfl) (one_cons rfl (one_cons rfl (one_cons (sl_one1 ho84.isSl) one_nil)))) ?_
  rintro _ H88 ⟨hx89, hb90⟩
  have X91 := Ext.thru X80 hx89 (fun z_ hz_ => by rw [hz_]; exact o15)
  have X92 := Ext.thru X81 hx89 (fun z_ hz_ => by rw [hz_]; exact o16)
  have ho94 := ho84.but hx89 (fun b hb _ e => by have h1 : H48.bd ≤ b := hb; have e' : b = b10 := e; omega) (fun z_ hz_ => by rw [hz_]; exact hb86.w)
  have hb95 := hb85.but hx89 ne17
  have hb96 := hb87.but hx89 (fun e => ne31 e.symm)
  have hb97 : At W H88 b10 ⟨61, [.int .i64 h, .int .i64 l, v65], 3⟩ := hb90
  refine AL.nx ?_
  refine AW.ret ?_
  refine post_cell rfl rfl va61 hb97 ?_ (.inr rfl)
  exact ⟨⟨_, rfl, kGf_succ.2 ⟨_, rfl, ho94.okk (fun b hb _ => Nat.le_trans o61 hb)⟩⟩, X91⟩

theorem toGateF_all (d : Nat) : ∀ {W : World} {H : Hp} {ok : Nat → Prop} {z : GT d} {a l : Int} {v : Value} (hK : (kG d).rd W H ok z [.int .i64 a, .int .i64 l, v]) (hs : szG d z ≤ 1048577), ACalls Try.prog W 38 #[.agg #[.int .i64 a, .int .i64 l, v]] H (fun r H' => (∃ u, r = .agg #[.int .i64 a, .int .i64 l, u] ∧ (kGf d).rd W H' (fun b => H.bd ≤ b) z [.int .i64 a, .int .i64 l, u]) ∧ Ext H H') := by
  induction d with
  | zero => intro W H ok z a l v hK hs; exact hK.elim
  | succ d ih =>
    intro W H ok z a l v hK hs
    obtain ⟨h', l', ks⟩ := z
    obtain ⟨v', e, hr⟩ := kG_succ.1 hK
    simp only [List.cons.injEq, Value.int.injEq, true_and, and_true] at e
    obtain ⟨rfl, rfl, rfl⟩ := e
    exact toGateF_of ih hr hs

set_option maxRecDepth 100000 in
theorem markGateS_of {d : Nat} (ih : ∀ d', d = d' + 1 → ∀ {W : World} {Hb H : Hp} {ok : Nat → Prop} {v : Value} {ks : List (GT d')} (hr : OwnK (kGf d') 61 W Hb ok v ks) (hm : Mq W Hb H ok) (hW : ∀ b, ok b → W.heap.size ≤ b) (q : Int) (hq : 0 ≤ q ∧ q + 2 * (szL d' ks : Int) ≤ 8000000), ACalls Try.prog W 110 #[v, .int .i64 q] H (fun r H' => r = .int .i64 (q + 2 * (szL d' ks : Int)) ∧ Mq W Hb H' ok ∧ But ok H H')) {W : World} {Hb H : Hp} {ok : Nat → Prop} {v : Value} {ks : List (GT d)} (hr : OwnK (kGf d) 61 W Hb ok v ks) (hm : Mq W Hb H ok) (hW : ∀ b, ok b → W.heap.size ≤ b) (q : Int) (hq : 0 ≤ q ∧ q + 2 * (szL d ks : Int) ≤ 8000000) : ACalls Try.prog W 110 #[v, .int .i64 q] H (fun r H' => r = .int .i64 (q + 2 * (szL d ks : Int)) ∧ Mq W Hb H' ok ∧ But ok H H') := by
  refine ACalls.of (args := [v, .int .i64 q]) Try.func110 rfl rfl ?_
  have X0 := Ext.refl H
  have hm1 := (hr.rd).max
  have sl59 : SlT Try.prog 59 61 (.agg #[(.int .i64 0), (.int .i64 0), (.slice none 0 0)]) (kGf d).sz 40 := by rw [kGf_sz]; exact sl59
  refine AW.rs ?_
  refine AL.val rfl (.inl rfl) (HV.as rfl) ?_
  refine AL.nx ?_
  refine AW.seq ?_
  refine AW.rs ?_
  refine AL.val rfl (.inl rfl) (HV.as rfl) ?_
  refine AL.nx ?_
  refine AW.block ?_
  have hmx := hr.rd.max
  have ch0 := But.refl ok H
  have hmS := hm.ext (Ext.refl _)
  have hll := szL_len ks (d := d)
  refine AW.loop (σ := Nat × Int) (fun ⟨i, p⟩ => [(0, v), (4, .int .i64 0), (1, .int .i64 p), (5, .int .i64 (i : Int))]) (fun ⟨i, p⟩ H' => i ≤ ks.length ∧ p = q + 2 * (szL d (ks.take i) : Int) ∧ Mq W Hb H' ok ∧ But ok H H' ∧ True) (fun ⟨i, p⟩ => ks.length - i) (0, q) ⟨Nat.zero_le _, by show q = q + 2 * ((0 : Nat) : Int); omega, hm, ch0, trivial⟩ ⟨rfl, rfl, rfl, rfl, trivial⟩ ?_
  rintro ⟨i, p⟩ H2 ⟨hi, hp, hmL, chL, _⟩
  have hst0 := szL_take ks i (d := d)
  refine AW.seq ?_
  refine AW.rs ?_
  refine AL.val rfl (.inl rfl) (HV.mv rfl) ?_
  refine AL.val rfl (.inl rfl) (HV.mv rfl) ?_
  refine AL.val rfl (.inl rfl) (HV.len Try.underlying59 rfl (hr.rd).isSl) ?_
  refine AL.val rfl (.inl rfl) (HV.lti rfl rfl) ?_
  refine AL.nx ?_
  refine AW.ifd rfl (fun c3 => ?_) (fun c3 => ?_)
  · -- then
    refine AW.skip ?_
    refine nrm_and ?_
    refine AW.seq ?_
    refine AW.block ?_
    refine AW.rs ?_
    refine AL.val rfl (.inl rfl) (HV.mv rfl) ?_
    refine AL.val rfl (.inl rfl) (HV.mv rfl) ?_
    refine AL.val rfl (.inl rfl) (HV.mv rfl) ?_
    obtain ⟨g4, z5, cs6, hz7, hK8, hC9, hg10, hP11⟩ := OwnK.ix (q := (i : Int)) hr sl59 (by omega) (by omega)
    obtain ⟨a14, l15, u16, n12, rfl, isl13⟩ := kGf_cells hK8
    refine AL.val rfl (.inl rfl) (hP11 rfl rfl) ?_
    refine AL.val rfl (.inl rfl) (HV.fa fl61_0 rfl) ?_
    obtain ⟨_, hn17⟩ := mq_num hmL (cells_at (j := 0) hC9 rfl) (hr.blk _ hg10).1
    refine AL.w0 (.inl rfl) (WV.stq rfl rfl va2 hn17 (hr.blk _ hg10).1 hW hmL) ?_
    rintro _ H18 ⟨hx19, hm20⟩
    have ch21 := But.trans chL hx19
    have X22 := Ext.refl H18
    refine AL.nx ?_
    refine AW.rs ?_
    refine AL.val rfl (.inl rfl) (HV.mv rfl) ?_
    refine AL.val rfl (.inl rfl) (HV.add rfl rfl (by omega)) ?_
    refine AL.val rfl (.inl rfl) (HV.as rfl) ?_
    refine AL.nx ?_
    refine AW.rs ?_
    refine AL.val rfl (.inl rfl) (HV.mv rfl) ?_
    refine AL.val rfl (.inl rfl) (HV.mv rfl) ?_
    refine AL.val rfl (.inl rfl) (HV.mv rfl) ?_
    obtain ⟨g23, z24, cs25, hz26, hK27, hC28, hg29, hP30⟩ := OwnK.ix (q := (i : Int)) hr sl59 (by omega) (by omega)
    obtain ⟨a33, l34, u35, n31, rfl, isl32⟩ := kGf_cells hK27
    refine AL.val rfl (.inl rfl) (hP30 rfl rfl) ?_
    refine AL.val rfl (.inl rfl) (HV.fa fl61_1 rfl) ?_
    obtain ⟨_, hn36⟩ := mq_num hm20 (cells_at (j := 1) hC28 rfl) (hr.blk _ hg29).1
    refine AL.w0 (.inl rfl) (WV.stq rfl rfl va2 hn36 (hr.blk _ hg29).1 hW hm20) ?_
    rintro _ H37 ⟨hx38, hm39⟩
    have ch40 := But.trans ch21 hx38
    have X41 := Ext.refl H37
    refine AL.nx ?_
    refine AW.rs ?_
    refine AL.val rfl (.inl rfl) (HV.mv rfl) ?_
    refine AL.val rfl (.inl rfl) (HV.add rfl rfl (by omega)) ?_
    refine AL.val rfl (.inl rfl) (HV.as rfl) ?_
    refine AL.nx ?_
    refine AW.reg ?_
    refine AL.val rfl (.inl rfl) (HV.mv rfl) ?_
    refine AL.val rfl (.inl rfl) (HV.mv rfl) ?_
    obtain ⟨g42, z43, cs44, hz45, hK46, hC47, hg48, hP49⟩ := OwnK.ix (q := (i : Int)) hr sl59 (by omega) (by omega)
    obtain ⟨a52, l53, u54, n50, rfl, isl51⟩ := kGf_cells hK46
    refine AL.val rfl (.inl rfl) (hP49 rfl rfl) ?_
    refine AL.val rfl (.inl rfl) (HV.fa fl61_2 rfl) ?_
    refine AL.val rfl (.inl rfl) (HV.ld rfl va59 (mq_row hm39 isl51 (cells_at (j := 2) hC47 rfl) (hr.blk _ hg48).1)) ?_
    refine AL.val rfl (.inl rfl) (HV.mv rfl) ?_
    obtain ⟨d55, ks56, hd57, hr58, hs59⟩ := kGf_kids hK46
    have hsn := szL_snoc (getq hz45 rfl)
    have hst := szL_take ks (i + 1) (d := d)
    refine AL.w rfl (.inl rfl) (WV.call fn110 rfl (ih d55 hd57 hr58 hm39 hW ((p + 1) + 1) (by omega))) ?_
    rintro _ H60 ⟨rfl, hm61, hB62⟩
    have ch63 := But.trans ch40 hB62
    have X64 := Ext.refl H60
    refine AL.val rfl (.inl rfl) (HV.as rfl) ?_
    refine AL.nil ?_
    refine nrm_blk (nrm_and ?_)
    refine AW.reg ?_
    refine AL.val rfl (.inl rfl) (HV.mv rfl) ?_
    refine AL.val rfl (.inl rfl) (HV.add rfl rfl (by omega)) ?_
    refine AL.val rfl (.inl rfl) (HV.as rfl) ?_
    refine AL.nil ?_
    refine nrm_and ?_
    exact ⟨(i + 1, (((p + 1) + 1) + 2 * (szL d55 ks56 : Int))), ⟨by omega, by rw [hsn]; omega, hm61, ch63, trivial⟩, by first | omega | (dsimp only; omega), ⟨rfl, rfl, rfl, rfl, trivial⟩⟩
  · -- else
    refine AW.exit ?_
    refine ex_and (ex_and (ex_blk ?_))
    refine nrm_and ?_
    refine AW.rs ?_
    refine AL.val rfl (.inl rfl) (HV.mv rfl) ?_
    refine AL.val rfl (.inl rfl) (HV.as rfl) ?_
    refine AL.nx ?_
    refine AW.ret ?_
    refine post_one rfl rfl ?_ (.inr rfl)
    exact ⟨congrArg (Value.int .i64) (by rw [List.take_of_length_le (by omega)] at hp; exact hp), hmL, chL⟩

theorem markGateS_all (d : Nat) : ∀ {W : World} {Hb H : Hp} {ok : Nat → Prop} {v : Value} {ks : List (GT d)} (hr : OwnK (kGf d) 61 W Hb ok v ks) (hm : Mq W Hb H ok) (hW : ∀ b, ok b → W.heap.size ≤ b) (q : Int) (hq : 0 ≤ q ∧ q + 2 * (szL d ks : Int) ≤ 8000000), ACalls Try.prog W 110 #[v, .int .i64 q] H (fun r H' => r = .int .i64 (q + 2 * (szL d ks : Int)) ∧ Mq W Hb H' ok ∧ But ok H H') := by
  induction d with
  | zero => exact markGateS_of (fun d' e => absurd e (by omega))
  | succ d ih => exact markGateS_of (fun d' e => by obtain rfl : d = d' := (by omega); exact ih)
end Go.Proofs.Yticobjbjejpomaa.VC

