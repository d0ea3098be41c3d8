/- Walks. -/
import Derived.Test.YticobjbjejpomaaZF9
set_option linter.unusedVariables false
set_option linter.unusedSimpArgs false
namespace Go.Proofs.Yticobjbjejpomaa.VC
open Go Go.RowKit
/-- Rows by their places. -/
def mapR (f : Nat → List Int) (n : Nat) : List (List Int) := (List.range n).map f
def hdA (l : List (List Int)) (i : Nat) : List Int := [0, (l.getD i []).getD 0 0]
def hdB (p : Int) (l : List (List Int)) (i : Nat) : List Int := [(l.getD i []).getD 0 0, (p - (l.getD i []).getD 0 0) % p]
def joA (k2 : Int) (l : List (List Int)) (i : Nat) : List Int := (hdA l i ++ (l.getD i []).drop 1) ++ List.replicate (k2 - 1).toNat 0
def joB (p k : Int) (l : List (List Int)) (i : Nat) : List Int := (hdB p l i ++ List.replicate (k - 1).toNat 0) ++ (l.getD i []).drop 1
def joL (p k k2 : Int) (l l2 : List (List Int)) : List (List Int) := mapR (joA k2 l) l.length ++ mapR (joB p k l2) l2.length
noncomputable def prC (n : Int) (o : List Int) (p k : Int) (l : List (List Int)) (n2 : Int) (o2 : List Int) (p2 k2 : Int) (l2 : List (List Int)) : Int := if okSc n o p k l ∧ okSc n2 o2 p2 k2 l2 then if n = n2 ∧ p = p2 then 0 else 2 else 1
noncomputable def bsC (n : Int) (o : List Int) (p k : Int) (l : List (List Int)) (n2 : Int) (o2 : List Int) (p2 k2 : Int) (l2 : List (List Int)) : Int := if prC n o p k l n2 o2 p2 k2 l2 = 0 then if okSc n (o ++ o2) p (k + k2) (joL p k k2 l l2) then 0 else 3 else prC n o p k l n2 o2 p2 k2 l2
section
variable {n : Int} {o : List Int} {p k : Int} {l : List (List Int)} {n2 : Int} {o2 : List Int} {p2 k2 : Int} {l2 : List (List Int)}
end
def zI (c x : Int) : Int := if c = 0 then x else 0
def zL {α : Type} (c : Int) (l : List α) : List α := if c = 0 then l else []
theorem zI_no {c x : Int} (h : c ≠ 0) : zI c x = 0 := if_neg h
theorem zI_yes {c x : Int} (h : c = 0) : zI c x = x := if_pos h
theorem zL_no {α : Type} {c : Int} {l : List α} (h : c ≠ 0) : zL c l = [] := if_neg h
theorem zL_yes {α : Type} {c : Int} {l : List α} (h : c = 0) : zL c l = l := if_pos h
variable {W : World} {H : Hp}

theorem bd31_ : Try.prog.built 31 [] = some #[.int .i64 0, .slice none 0 0, .int .i64 0, .int .i64 0, .slice none 0 0] := by kernel_rfl
set_option maxRecDepth 100000 in
theorem l04Told_ok {vo v : Value} {o : List Int} {l : List (List Int)} {oko ok : Nat → Prop} (n p k : Int) (ho : RdK kI W H oko vo o) (hr : RdK (kR kI) W H ok v l) : ACalls Try.prog W 61 #[.agg #[.int .i64 n, vo, .int .i64 p, .int .i64 k, v]] H (fun r H' => r = (if okSc n o p k l then .tuple #[.agg #[.int .i64 n, vo, .int .i64 p, .int .i64 k, v], .int .i64 0] else .tuple #[.agg #[.int .i64 0, .slice none 0 0, .int .i64 0, .int .i64 0, .slice none 0 0], .int .i64 3]) ∧ Ext H H') := by
  refine ACalls.of (args := [.agg #[.int .i64 n, vo, .int .i64 p, .int .i64 k, v]]) Try.func61 rfl rfl ?_
  have X0 := Ext.refl H
  have hm1 := ho.max
  have hm2 := hr.max
  refine AW.rs ?_
  refine AL.w rfl (.inl rfl) (WV.bx rfl rfl) ?_
  rintro _ H4 ⟨b3, rfl, hx5, hn6, hb7⟩
  have o8 := Nat.le_trans X0.bd hn6
  have X9 := Ext.trans X0 hx5
  have X10 := Ext.refl H4
  refine AL.w rfl (.inl rfl) (WV.al ze31 rfl) ?_
  rintro _ H12 ⟨b11, rfl, hx13, hn14, hb15⟩
  have o16 := Nat.le_trans X9.bd hn14
  have o17 := Nat.le_trans X10.bd hn14
  have ne18 : b3 ≠ b11 := by have := hb7.lt; omega
  have X19 := Ext.trans X9 hx13
  have X20 := Ext.trans X10 hx13
  have hb21 := hb7.ext hx13
  have X22 := Ext.refl H12
  refine AL.val rfl (.inl rfl) (HV.as rfl) ?_
  refine AL.nx ?_
  refine AW.seq ?_
  refine AW.rs ?_
  refine AL.w rfl (.inl rfl) (WV.call fn90 rfl (l04Ok_ok n p k (ho.ext X19) (hr.ext X19) (at_cells hb21 rfl))) ?_
  rintro _ H23 ⟨rfl, hx24⟩
  have X25 := Ext.trans X19 hx24
  have X26 := Ext.trans X20 hx24
  have X27 := Ext.trans X22 hx24
  have hb28 := hb21.ext hx24
  have hb29 := hb15.ext hx24
  refine AL.val rfl (.inl rfl) (HV.not rfl) ?_
  refine AL.nx ?_
  refine AW.ifn rfl (fun c30 => ?_) (fun c30 => ?_)
  · -- then
    refine AW.rs ?_
    refine AL.val rfl (.inl rfl) (HV.bd rfl (bd31_ )) ?_
    refine AL.w0 (.inl rfl) (WV.st rfl rfl va31 rfl hb29 (Nat.le_of_ble_eq_true rfl) (one_cons rfl (one_cons (sl_one1 ⟨none, 0, rfl⟩) (one_cons rfl (one_cons rfl (one_cons (sl_one1 ⟨none, 0, rfl⟩) one_nil)))))) ?_
    rintro _ H31 ⟨hx32, hb33⟩
    have X34 := Ext.thru X25 hx32 (fun z_ hz_ => by rw [hz_]; exact o16)
    have X35 := Ext.thru X26 hx32 (fun z_ hz_ => by rw [hz_]; exact o17)
    have hb37 := hb28.but hx32 ne18
    have hb38 : At W H31 b11 ⟨31, [.int .i64 0, (.slice none 0 0), .int .i64 0, .int .i64 0, (.slice none 0 0)], 5⟩ := hb33
    refine AL.val rfl (.inl rfl) (HV.as rfl) ?_
    refine AL.nx ?_
    refine AW.ret ?_
    refine ret_and ?_
    refine post_ct rfl rfl rfl va31 hb38 ?_ (.inr rfl)
    exact ⟨(if_neg c30).symm, X34⟩
  · -- else
    refine AW.skip ?_
    refine nrm_and ?_
    refine AW.rs ?_
    refine AL.val rfl (.inl rfl) (HV.lda (cs := [.int .i64 n, vo, .int .i64 p, .int .i64 k, v]) rfl va31 (at_cells hb28 rfl)) ?_
    refine AL.w0 (.inl rfl) (WV.st rfl rfl va31 rfl hb29 (Nat.le_of_ble_eq_true rfl) (one_cons rfl (one_cons (sl_one1 (ho.ext X25).isSl) (one_cons rfl (one_cons rfl (one_cons (sl_one1 (hr.ext X25).isSl) one_nil)))))) ?_
    rintro _ H39 ⟨hx40, hb41⟩
    have X42 := Ext.thru X25 hx40 (fun z_ hz_ => by rw [hz_]; exact o16)
    have X43 := Ext.thru X26 hx40 (fun z_ hz_ => by rw [hz_]; exact o17)
    have hb45 := hb28.but hx40 ne18
    have hb46 : At W H39 b11 ⟨31, [.int .i64 n, vo, .int .i64 p, .int .i64 k, v], 5⟩ := hb41
    refine AL.val rfl (.inl rfl) (HV.as rfl) ?_
    refine AL.nx ?_
    refine AW.ret ?_
    refine post_ct rfl rfl rfl va31 hb46 ?_ (.inr rfl)
    exact ⟨(if_pos c30).symm, X42⟩

set_option maxRecDepth 100000 in
theorem schLim_ok {vo v : Value} {o : List Int} {l : List (List Int)} {oko ok : Nat → Prop} (n p k : Int) (ho : RdK kI W H oko vo o) (hr : RdK (kR kI) W H ok v l) : ACalls Try.prog W 108 #[.agg #[.int .i64 n, vo, .int .i64 p, .int .i64 k, v]] H (fun r H' => r = (if okSc n o p k l then .tuple #[.agg #[.int .i64 n, vo, .int .i64 p, .int .i64 k, v], .int .i64 0] else .tuple #[.agg #[.int .i64 0, .slice none 0 0, .int .i64 0, .int .i64 0, .slice none 0 0], .int .i64 3]) ∧ Ext H H') := by
  refine ACalls.of (args := [.agg #[.int .i64 n, vo, .int .i64 p, .int .i64 k, v]]) Try.func108 rfl rfl ?_
  have X0 := Ext.refl H
  have hm1 := ho.max
  have hm2 := hr.max
  refine AW.rs ?_
  refine AL.w rfl (.inl rfl) (WV.bx rfl rfl) ?_
  rintro _ H4 ⟨b3, rfl, hx5, hn6, hb7⟩
  have o8 := Nat.le_trans X0.bd hn6
  have X9 := Ext.trans X0 hx5
  have X10 := Ext.refl H4
  refine AL.w rfl (.inl rfl) (WV.al ze31 rfl) ?_
  rintro _ H12 ⟨b11, rfl, hx13, hn14, hb15⟩
  have o16 := Nat.le_trans X9.bd hn14
  have o17 := Nat.le_trans X10.bd hn14
  have ne18 : b3 ≠ b11 := by have := hb7.lt; omega
  have X19 := Ext.trans X9 hx13
  have X20 := Ext.trans X10 hx13
  have hb21 := hb7.ext hx13
  have X22 := Ext.refl H12
  refine AL.val rfl (.inl rfl) (HV.as rfl) ?_
  refine AL.nx ?_
  refine AW.seq ?_
  refine AW.rs ?_
  refine AL.val rfl (.inl rfl) (HV.lda (cs := [.int .i64 n, vo, .int .i64 p, .int .i64 k, v]) rfl va31 (at_cells hb21 rfl)) ?_
  refine AL.w rfl (.inl rfl) (WV.call fn92 rfl (ValidS_ok n p k (ho.ext X19) (hr.ext X19))) ?_
  rintro _ H23 ⟨rfl, hx24⟩
  have X25 := Ext.trans X19 hx24
  have X26 := Ext.trans X20 hx24
  have X27 := Ext.trans X22 hx24
  have hb28 := hb21.ext hx24
  have hb29 := hb15.ext hx24
  refine AL.val rfl (.inl rfl) (HV.not rfl) ?_
  refine AL.nx ?_
  refine AW.ifn rfl (fun c30 => ?_) (fun c30 => ?_)
  · -- then
    refine AW.rs ?_
    refine AL.val rfl (.inl rfl) (HV.bd rfl (bd31_ )) ?_
    refine AL.w0 (.inl rfl) (WV.st rfl rfl va31 rfl hb29 (Nat.le_of_ble_eq_true rfl) (one_cons rfl (one_cons (sl_one1 ⟨none, 0, rfl⟩) (one_cons rfl (one_cons rfl (one_cons (sl_one1 ⟨none, 0, rfl⟩) one_nil)))))) ?_
    rintro _ H31 ⟨hx32, hb33⟩
    have X34 := Ext.thru X25 hx32 (fun z_ hz_ => by rw [hz_]; exact o16)
    have X35 := Ext.thru X26 hx32 (fun z_ hz_ => by rw [hz_]; exact o17)
    have hb37 := hb28.but hx32 ne18
    have hb38 : At W H31 b11 ⟨31, [.int .i64 0, (.slice none 0 0), .int .i64 0, .int .i64 0, (.slice none 0 0)], 5⟩ := hb33
    refine AL.val rfl (.inl rfl) (HV.as rfl) ?_
    refine AL.nx ?_
    refine AW.ret ?_
    refine ret_and ?_
    refine post_ct rfl rfl rfl va31 hb38 ?_ (.inr rfl)
    exact ⟨(if_neg c30).symm, X34⟩
  · -- else
    refine AW.skip ?_
    refine nrm_and ?_
    refine AW.rs ?_
    refine AL.val rfl (.inl rfl) (HV.lda (cs := [.int .i64 n, vo, .int .i64 p, .int .i64 k, v]) rfl va31 (at_cells hb28 rfl)) ?_
    refine AL.w0 (.inl rfl) (WV.st rfl rfl va31 rfl hb29 (Nat.le_of_ble_eq_true rfl) (one_cons rfl (one_cons (sl_one1 (ho.ext X25).isSl) (one_cons rfl (one_cons rfl (one_cons (sl_one1 (hr.ext X25).isSl) one_nil)))))) ?_
    rintro _ H39 ⟨hx40, hb41⟩
    have X42 := Ext.thru X25 hx40 (fun z_ hz_ => by rw [hz_]; exact o16)
    have X43 := Ext.thru X26 hx40 (fun z_ hz_ => by rw [hz_]; exact o17)
    have hb45 := hb28.but hx40 ne18
    have hb46 : At W H39 b11 ⟨31, [.int .i64 n, vo, .int .i64 p, .int .i64 k, v], 5⟩ := hb41
    refine AL.val rfl (.inl rfl) (HV.as rfl) ?_
    refine AL.nx ?_
    refine AW.ret ?_
    refine post_ct rfl rfl rfl va31 hb46 ?_ (.inr rfl)
    exact ⟨(if_pos c30).symm, X42⟩

end Go.Proofs.Yticobjbjejpomaa.VC

