/- Walks. -/
import Derived.Test.YtbjcgcililpfdaaGreatZN15
set_option linter.unusedVariables false
set_option linter.unusedSimpArgs false
namespace Go.Proofs.YtbjcgcililpfdaaGreat.VC
open Go Go.RowKit
variable {W : World} {H : Hp}

set_option maxRecDepth 100000 in
theorem compact_nil  : ACalls Tryz.prog W 55 #[(.slice none 0 0), (.func (.func 56) #[] #[])] H (fun r H' => r = .slice none 0 0 ∧ Ext H H') := by
  refine ACalls.of (args := [(.slice none 0 0), (.func (.func 56) #[] #[])]) Tryz.func55 rfl rfl ?_
  have X0 := Ext.refl H
  refine AW.rs ?_
  refine AL.val rfl (.inl rfl) (HV.as rfl) ?_
  refine AL.nx ?_
  refine AW.seq ?_
  refine AW.rs ?_
  refine AL.val rfl (.inl rfl) (HV.mv rfl) ?_
  refine AL.val rfl (.inl rfl) (HV.len Tryz.underlying37 rfl ⟨_, _, rfl⟩) ?_
  refine AL.val rfl (.inl rfl) (HV.lti rfl rfl) ?_
  refine AL.nx ?_
  refine AW.ifd rfl (fun c1 => ?_) (fun c1 => ?_)
  · -- then
    refine AW.rs ?_
    refine AL.val rfl (.inl rfl) (HV.mv rfl) ?_
    refine AL.val rfl (.inl rfl) (HV.as rfl) ?_
    refine AL.nx ?_
    refine AW.ret ?_
    refine ret_and ?_
    refine post_one rfl rfl ?_ (.inr rfl)
    exact ⟨rfl, X0⟩
  · -- else
    exfalso; omega

theorem compactK {lab : Nat → Nat} {v : Value} {ts : List RT} {ok : Nat → Prop} (ho : OwnK (kT lab) 25 W H ok v ts) (hm : ts.length ≤ 1048576) :
    ACalls Tryz.prog W 55 #[v, .func (.func 56) #[] #[]] H (fun r H' => But (fun b => some b = v.ownBlock) H H' ∧ OwnK (kT lab) 25 W H' ok r (thinN ts ts.length)) := by
  have ho2 := ho
  obtain ⟨css, h1, i1, i2, i3⟩ := ho2
  rcases i3 with ⟨rfl, h0⟩ | ⟨g, c, rfl, hg, hA, hc, hmx⟩
  · refine (compact_nil).mono fun r H' h => ?_
    obtain ⟨rfl, hx⟩ := h
    have e : ts = [] := List.length_eq_zero_iff.1 h0
    subst e
    exact ⟨hx.but _, OwnK.nil _⟩
  · refine (compact_of (g := g) (n := ts.length) (c := c) ho rfl hc hm).mono fun r H' h => ?_
    obtain ⟨⟨m, rfl, h3⟩, hb⟩ := h
    exact ⟨hb.mono (fun b e => by rw [e]; rfl), h3⟩

theorem choices_okI {bp bs ba bo B : Nat} {vs vo : Value} {l : List (Int × Int)} {p ag : Int} (hrs : RdK (kP kI kI) W H (fun b => b < B) vs l) (ho : OwnD (kO 2 kI) 25 W H (fun b => B ≤ b ∧ b ≠ bo) vo []) (hbp : At W H bp ⟨2, [.int .i64 p], 1⟩) (hbs : At W H bs ⟨28, [vs], 1⟩) (hba : At W H ba ⟨2, [.int .i64 ag], 1⟩) (hbo : At W H bo ⟨37, [vo], 1⟩) (hB : (bp < B ∧ bs < B ∧ ba < B) ∧ B ≤ bo) (hv : vS p l) {dm : Nat} {q : Int} (hq : q = (dm : Int)) :
    ACalls Tryz.prog W 47 #[vs, .int .i64 q, (.func (.func 48) #[] #[.pointer (some ⟨bp, 0, none⟩), .pointer (some ⟨bs, 0, none⟩), .pointer (some ⟨ba, 0, none⟩), .pointer (some ⟨bo, 0, none⟩)])] H (fun r H' => (∃ v', At W H' bo ⟨37, [v'], 1⟩ ∧ OwnD (kO 2 kI) 25 W H' (fun b => B ≤ b ∧ b ≠ bo) v' (nrC p l ag dm (2 ^ l.length))) ∧ But (fun b => B ≤ b) H H') := by
  subst hq
  exact (choices_ok hrs ho hbp hbs hba hbo hB hv).mono fun r H' h => h

set_option maxRecDepth 100000 in
theorem nearI_ok {v : Value} {l : List (Int × Int)} {ok : Nat → Prop} (hr : RdK (kP kI kI) W H ok v l) {p dg ag : Int} (hv : vS p l) (hd : 0 ≤ dg ∧ dg ≤ 6) : ACalls Tryz.prog W 29 #[.int .i64 p, v, .int .i64 dg, .int .i64 ag] H (fun r H' => Ext H H' ∧ OwnD (kO 2 kI) 25 W H' (fun b => H.bd ≤ b) r (nearK p l dg ag)) := by
  refine ACalls.of (args := [.int .i64 p, v, .int .i64 dg, .int .i64 ag]) Tryz.func29 rfl rfl ?_
  have X0 := Ext.refl H
  have hm1 := hr.max
  have hl10 := vS_len hv
  have h2n := two10 hl10
  have hdm : dg + 1 = ((dg + 1).toNat : Int) := by omega
  refine AW.rs ?_
  refine AL.w rfl (.inl rfl) (WV.bx rfl rfl) ?_
  rintro _ H3 ⟨b2, rfl, hx4, hn5, hb6⟩
  have o7 := Nat.le_trans X0.bd hn5
  have X8 := Ext.trans X0 hx4
  have X9 := Ext.refl H3
  refine AL.w rfl (.inl rfl) (WV.bx rfl rfl) ?_
  rintro _ H11 ⟨b10, rfl, hx12, hn13, hb14⟩
  have o15 := Nat.le_trans X8.bd hn13
  have o16 := Nat.le_trans X9.bd hn13
  have ne17 : b2 ≠ b10 := by have := hb6.lt; omega
  have X18 := Ext.trans X8 hx12
  have X19 := Ext.trans X9 hx12
  have hb20 := hb6.ext hx12
  have X21 := Ext.refl H11
  have hb22 : At W H11 b10 ⟨28, [v], 1⟩ := by have q := hb14; simp only [sl_cells hr.isSl] at q; exact q
  refine AL.w rfl (.inl rfl) (WV.bx rfl rfl) ?_
  rintro _ H24 ⟨b23, rfl, hx25, hn26, hb27⟩
  have o28 := Nat.le_trans X18.bd hn26
  have o29 := Nat.le_trans X19.bd hn26
  have o30 := Nat.le_trans X21.bd hn26
  have ne31 : b2 ≠ b23 := by have := hb20.lt; omega
  have ne32 : b10 ≠ b23 := by have := hb22.lt; omega
  have X33 := Ext.trans X18 hx25
  have X34 := Ext.trans X19 hx25
  have X35 := Ext.trans X21 hx25
  have hb36 := hb20.ext hx25
  have hb37 := hb22.ext hx25
  have X38 := Ext.refl H24
  refine AL.val rfl (.inl rfl) (HV.as rfl) ?_
  refine AL.nx ?_
  refine AW.rs ?_
  have y39 := hb36.lt
  have y40 := hb37.lt
  have y41 := hb27.lt
  have o42 := X33.bd
  have o43 := X34.bd
  have o44 := X35.bd
  have o45 := X38.bd
  refine AL.w rfl (.inl rfl) (WV.bsK (K := (kO 2 kI)) (l := ([] : List (List Int))) (css := []) sl37 rfl rfl (by first | rfl | (simp [Instr.fill, Value.cells, kI, kB, kU, kU8, kS, Kd.sc]; done) | (simp [Instr.fill, Value.cells, kI, kB, kU, kU8, kS, Kd.sc, rng1, rng2, rng3, rng4, kP])) rfl segs_nil) ?_
  rintro v46 H47 ⟨hx48, ho49⟩
  have X50 := Ext.trans X33 hx48
  have X51 := Ext.trans X34 hx48
  have X52 := Ext.trans X35 hx48
  have X53 := Ext.trans X38 hx48
  have hb54 := hb36.ext hx48
  have hb55 := hb37.ext hx48
  have hb56 := hb27.ext hx48
  have ho57 := ho49.deep0
  have X59 := Ext.refl H47
  have ho60 := ho57.okk (ok' := fun b => H24.bd ≤ b ∧ b < H47.bd) (fun b hb hlt => ⟨hb, hlt⟩)
  refine AL.w rfl (.inl rfl) (WV.al ze37 rfl) ?_
  rintro _ H62 ⟨b61, rfl, hx63, hn64, hb65⟩
  have o66 := Nat.le_trans X50.bd hn64
  have o67 := Nat.le_trans X51.bd hn64
  have o68 := Nat.le_trans X52.bd hn64
  have o69 := Nat.le_trans X53.bd hn64
  have o70 := Nat.le_trans X59.bd hn64
  have ne71 : b2 ≠ b61 := by have := hb54.lt; omega
  have ne72 : b10 ≠ b61 := by have := hb55.lt; omega
  have ne73 : b23 ≠ b61 := by have := hb56.lt; omega
  have X74 := Ext.trans X50 hx63
  have X75 := Ext.trans X51 hx63
  have X76 := Ext.trans X52 hx63
  have X77 := Ext.trans X53 hx63
  have X78 := Ext.trans X59 hx63
  have ho79 := ho60.ext hx63
  have hb80 := hb54.ext hx63
  have hb81 := hb55.ext hx63
  have hb82 := hb56.ext hx63
  have X83 := Ext.refl H62
  refine AL.w0 (.inl rfl) (WV.st rfl rfl va37 (sl_size (rd_ofO ho79.rd).isSl) hb65 (Nat.le_of_ble_eq_true rfl) (sl_one (rd_ofO ho79.rd).isSl)) ?_
  rintro _ H84 ⟨hx85, hb86⟩
  rw [sl_cells (rd_ofO ho79.rd).isSl] at hb86
  have X87 := Ext.thru X74 hx85 (fun z_ hz_ => by rw [hz_]; exact o66)
  have X88 := Ext.thru X75 hx85 (fun z_ hz_ => by rw [hz_]; exact o67)
  have X89 := Ext.thru X76 hx85 (fun z_ hz_ => by rw [hz_]; exact o68)
  have X90 := Ext.thru X77 hx85 (fun z_ hz_ => by rw [hz_]; exact o69)
  have X91 := Ext.thru X78 hx85 (fun z_ hz_ => by rw [hz_]; exact o70)
  have q93 := Nat.le_trans X83.bd hx85.bd
  have ho94 := ho79.but hx85 (fun b hb _ e => by have hb' : H24.bd ≤ b ∧ b < H47.bd := hb; have e' : b = b61 := e; omega) (fun z_ hz_ => by rw [hz_]; exact hb65.w)
  have hb95 := hb80.but hx85 ne71
  have hb96 := hb81.but hx85 ne72
  have hb97 := hb82.but hx85 ne73
  have hb98 : At W H84 b61 ⟨37, [v46], 1⟩ := hb86
  refine AL.nx ?_
  refine AW.rs ?_
  refine AL.val rfl (.inl rfl) (HV.ld rfl va28 (at_cell hb96 rfl)) ?_
  refine AL.val rfl (.inl rfl) (HV.mv rfl) ?_
  refine AL.val rfl (.inl rfl) (HV.add rfl rfl (by omega)) ?_
  refine AL.val rfl (.inl rfl) (HV.fn rfl rfl) ?_
  have X99 := Ext.refl H84
  have ho105 := ho94.okk (ok' := fun b => H24.bd ≤ b ∧ b ≠ b61) (fun b hb _ => by have h1 : H24.bd ≤ b ∧ b < H47.bd := hb; have h2 := o70; exact ⟨h1.1, by omega⟩)
  have hHC : H.bd ≤ H24.bd := o42
  have hCB : H24.bd ≤ b61 := by have h2 := o69; omega
  have hr106 := (RdK.okk (ok' := fun b => b < H24.bd) hr (fun b _ hlt => Nat.lt_of_lt_of_le hlt hHC)).ext X87
  refine AL.w rfl (.inl rfl) (WV.call fn47 rfl (choices_okI (dm := (dg + 1).toNat) hr106 ho105 hb95 hb96 hb97 hb98 ⟨⟨by omega, by omega, by omega⟩, hCB⟩ hv hdm)) ?_
  rintro _ H100 ⟨⟨v101, hb102, hD103⟩, hx104⟩
  have X107 := Ext.thru X87 hx104 (fun b (e : H24.bd ≤ b) => by omega)
  have X108 := Ext.refl H100
  refine AL.nx ?_
  refine AW.rs ?_
  refine AL.val rfl (.inl rfl) (HV.ld rfl va37 (at_cell hb102 rfl)) ?_
  obtain ⟨lab, ts, hT, htl, htn⟩ := hD103.toT
  have hnl := nrC_len p l ag (dg + 1).toNat (2 ^ l.length)
  have htk := congrArg List.length htl
  rw [List.length_map] at htk
  refine AL.w rfl (.inl rfl) (WV.call fn50 rfl (sortF_ok hT (by omega))) ?_
  rintro _ H109 ⟨rfl, hb110, ts2, hpm, hpw, hT2⟩
  have X111 := Ext.thru X107 hb110 (fun b e => Nat.le_trans hHC (hT.blk b e).1.1)
  have hbo112 := hb102.but hb110 (fun e => (hT.blk _ e).1.2 rfl)
  have X113 := Ext.refl H109
  refine AL.nx ?_
  refine AW.rs ?_
  refine AL.val rfl (.inl rfl) (HV.ld rfl va37 (at_cell hbo112 rfl)) ?_
  refine AL.w rfl (.inl rfl) (WV.call fn55 rfl (compactK hT2 (by rw [hpm.length_eq]; omega))) ?_
  rintro v115 H114 ⟨hb116, hT117⟩
  have X118 := Ext.thru X111 hb116 (fun b e => Nat.le_trans hHC (hT2.blk b e).1.1)
  refine AL.val rfl (.inl rfl) (HV.as rfl) ?_
  refine AL.nx ?_
  refine AW.ret ?_
  refine post_one rfl rfl ?_ (.inr rfl)
  exact ⟨X118, by have hnd : ((thinN ts2 ts2.length).map (fun x : RT => x.2.2)).Nodup := (((hpm.map (fun x : RT => x.2.2)).nodup_iff.2 htn).sublist ((thinN_sub ts2).map _)); have q := hT117.toD hnd; rw [near_fin hd.1 htl hpm hpw] at q; exact q.okk (fun b hb _ => Nat.le_trans hHC hb.1)⟩
end Go.Proofs.YtbjcgcililpfdaaGreat.VC

