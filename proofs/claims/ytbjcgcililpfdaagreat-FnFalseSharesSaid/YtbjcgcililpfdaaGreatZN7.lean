/- Walks. -/
import Derived.Test.YtbjcgcililpfdaaGreatZN6
set_option linter.unusedVariables false
set_option linter.unusedSimpArgs false
namespace Go.Proofs.YtbjcgcililpfdaaGreat.VC
open Go Go.RowKit
variable {W : World} {H : Hp}

noncomputable def nearK (p : Int) (l : List (Int × Int)) (dg ag : Int) : List (List Int) := wk (tryC p l ag) (dg + 1).toNat l [] []
theorem walk5_all (N : Nat) : ∀ {W : World} {H : Hp} {bx : Nat} {vs : Value} {l : List (Int × Int)} (hrs : RdK (kP kI kI) W H (fun y => y ≠ bx) vs l) {vh : Value} {ch : List (Int × Int)} (hrh : RdK (kP kI kI) W H (fun y => y ≠ bx) vh ch) {vo : Value} {out : List (List Int)} {p dg ag : Int} (hro : RdK (kR kI) W H (fun y => y ≠ bx) vo out) (hbx : At W H bx ⟨79, [.int .i64 p, vs, .int .i64 dg, .int .i64 ag, vo], 5⟩) (hv : vS p l) {f : Nat} (hch : (ch ++ l.drop f).Sublist l) (hf : f ≤ l.length) (hd : 0 ≤ dg ∧ dg ≤ 6) (hol : out.length + 2 ^ (l.length - f) ≤ 1000000), l.length - f < N → ACalls Tryz.prog W 60 #[.pointer (some ⟨bx, 0, none⟩), vh, .int .i64 (f : Int)] H (fun r H' => (∃ v', At W H' bx ⟨79, [.int .i64 p, vs, .int .i64 dg, .int .i64 ag, v'], 5⟩ ∧ RdK (kR kI) W H' (fun y => y ≠ bx) v' (wk (tryC p l ag) (dg + 1).toNat (l.drop f) ch out)) ∧ But (fun x => x = bx) H H') := by
  induction N with
  | zero => intros; omega
  | succ N ih =>
    intro W H bx vs l hrs vh ch hrh vo out p dg ag hro hbx hv f hch hf hd hol hlt
    exact walk5_of (N := l.length - f) (by intro W H bx vs l hrs vh ch hrh vo out p dg ag hro hbx hv f' hch hf hd hol h2; exact ih hrs hrh hro hbx hv hch hf hd hol (by omega)) hrs hrh hro hbx hv hch hf hd hol rfl

set_option maxRecDepth 100000 in
theorem near5_ok {v : Value} {l : List (Int × Int)} {ok : Nat → Prop} (hr : RdK (kP kI kI) W H ok v l) {p dg ag : Int} (hv : vS p l) (hd : 0 ≤ dg ∧ dg ≤ 6) : ACalls Tryz.prog W 33 #[.int .i64 p, v, .int .i64 dg, .int .i64 ag] H (fun r H' => RdK (kR kI) W H' (fun _ => True) r (nearK p l dg ag) ∧ Ext H H') := by
  refine ACalls.of (args := [.int .i64 p, v, .int .i64 dg, .int .i64 ag]) Tryz.func33 rfl rfl ?_
  have X0 := Ext.refl H
  have hm1 := hr.max
  have hl10 := vS_len hv
  have hpw : ([] : List (List Int)).length + 2 ^ (l.length - 0) ≤ 1000000 := by have q := Nat.pow_le_pow_right (n := 2) (by decide) (show l.length - 0 ≤ 10 by omega); simp only [List.length_nil]; omega
  refine AW.rs ?_
  refine AL.val rfl (.inl rfl) (HV.as rfl) ?_
  refine AL.nx ?_
  refine AW.rs ?_
  refine AL.val rfl (.inl rfl) (HV.mv rfl) ?_
  refine AL.val rfl (.inl rfl) (HV.mv rfl) ?_
  refine AL.val rfl (.inl rfl) (HV.mv rfl) ?_
  refine AL.val rfl (.inl rfl) (HV.mv rfl) ?_
  refine AL.val rfl (.inl rfl) (HV.bd rfl (bd79_0_1_2_3 p hr.isSl dg ag)) ?_
  refine AL.w rfl (.inl rfl) (WV.bx rfl rfl) ?_
  rintro _ H3 ⟨b2, rfl, hx4, hn5, hb6⟩
  have o7 := Nat.le_trans X0.bd hn5
  have X8 := Ext.trans X0 hx4
  have X9 := Ext.refl H3
  refine AL.val rfl (.inl rfl) (HV.as rfl) ?_
  refine AL.nx ?_
  refine AW.rs ?_
  refine AL.val rfl (.inl rfl) (HV.mv rfl) ?_
  have y10 := hb6.lt
  have o11 := X8.bd
  have o12 := X9.bd
  refine AL.w rfl (.inl rfl) (WV.bsK (K := (kP kI kI)) (l := ([] : List (Int × Int))) (css := []) sl28 rfl rfl (by first | rfl | (simp [Instr.fill, Value.cells, kI, kB, kU, kU8, kS, Kd.sc]; done) | (simp [Instr.fill, Value.cells, kI, kB, kU, kU8, kS, Kd.sc, rng1, rng2, rng3, rng4, kP])) rfl segs_nil) ?_
  rintro v13 H14 ⟨hx15, ho16⟩
  have X17 := Ext.trans X8 hx15
  have X18 := Ext.trans X9 hx15
  have hb19 := hb6.ext hx15
  have X21 := Ext.refl H14
  have h27 := (RdK.okk (ok' := fun y => y ≠ b2) hr (fun y _ hlt e => by have h1 : H.bd ≤ b2 := o7; omega)).ext X17
  have h28 := RdK.okk (ok' := fun y => y ≠ b2) ho16.rd (fun y hy _ e => by have h1 : H3.bd ≤ y := hy; omega)
  refine AL.w rfl (.inl rfl) (WV.call fn60 rfl (walk5_all (l.length + 1) (f := 0) h27 h28 (OwnK.nil (K := kR kI) (e := 0) _).rd hb19 hv (List.Sublist.refl _) (Nat.zero_le _) hd hpw (by omega))) ?_
  rintro _ H22 ⟨⟨v23, hb24, hr25⟩, hx26⟩
  have X29 := Ext.thru X17 hx26 (fun z_ hz_ => by rw [hz_]; exact o7)
  have q31 := Nat.le_trans X18.bd hx26.bd
  have q33 := Nat.le_trans X21.bd hx26.bd
  have ho34 := ho16.but hx26 (fun b hb _ e => by have hb' : H3.bd ≤ b := hb; have e' : b = b2 := e; omega) (fun z_ hz_ => by rw [hz_]; exact hb19.w)
  have X35 := Ext.refl H22
  refine AL.nx ?_
  refine AW.rs ?_
  refine AL.val rfl (.inl rfl) (HV.mv rfl) ?_
  refine AL.val rfl (.inl rfl) (HV.nc rfl) ?_
  refine AL.val rfl (.inl rfl) (HV.fa fl79_4 rfl) ?_
  refine AL.val rfl (.inl rfl) (HV.ld rfl va37 (at_cell_add (j := 4) hb24 rfl)) ?_
  refine AL.val rfl (.inl rfl) (HV.as rfl) ?_
  refine AL.nx ?_
  refine AW.ret ?_
  refine post_one rfl rfl ?_ (.inr rfl)
  exact ⟨(hr25).okk (fun _ _ _ => trivial), X29⟩
end Go.Proofs.YtbjcgcililpfdaaGreat.VC

