/- Walks. -/
import Derived.Test.YticobjbjejpomaaVF14
set_option linter.unusedVariables false
set_option linter.unusedSimpArgs false
namespace Go.Proofs.Yticobjbjejpomaa.VC
open Go Go.RowKit
section
variable {P : Program} {W : World} {N : Nat} {E : List (Nat × Value)} {H : Hp} {d : Nat} {ty : TypeId} {pos : String} {af : Array Edge} {gd : Option (Nat × Bool)} {t : TypeId} {x y : Operand} {α : Type} {K : Kd α} {ok : Nat → Prop} {v : Value} {l : List α}
theorem WV.bsR {okx : Nat → Prop} {e : TypeId} {z : Value} {bytes len : Nat} {parts : List (Nat × Operand)} {vs : List (Nat × Value)} {css : List (List Value)} (ht : SlT P t e z K.sz bytes)
    (hv : evls E parts = some vs) (hlen : Nat.ble (len * K.sz) 16777216 = true)
    (hf : Instr.fill (fun i => some (i * K.sz, K.sz)) ((Array.range (len * K.sz)).map (z.cells[· % z.cells.size]!)) vs = some css.flatten.toArray) (hl : l.length = len) (hs : Segs (fun _ x cs => K.rd W H okx x cs) l css) :
    WV P W N E H ⟨some d, .buildSlice t len parts.toArray, ty, pos, af, gd⟩ (fun v H' => Ext H H' ∧ OwnK K e W H' (fun b => okx b ∨ H.bd ≤ b) v l ∧ ∀ b, some b = v.ownBlock → H.bd ≤ b) := by
  have hf2 := hs.flat (fun _ _ _ h => K.len h)
  refine (WV.bs ht hv hlen hf (fun u hu => ?_) (by rw [hf2.2, hl])).mono fun v H' ⟨h1, h2⟩ => ⟨h1, ⟨css, hs.imp (fun _ _ _ h => ?_), by rw [hl]; exact h2.ok (fun b hb _ => .inr hb)⟩, fun b hb => (h2.blk b hb).1⟩
  · obtain ⟨cs, hcs, hu⟩ := List.mem_flatten.1 hu
    obtain ⟨i, hi⟩ := List.getElem?_of_mem hcs
    have hil : i < l.length := by rw [← hs.1]; exact (List.getElem?_eq_some_iff.1 hi).1
    exact K.one (hs.2 i _ _ (List.getElem?_eq_getElem hil) hi) u hu
  · have h0 : K.rd W H (fun b => okx b ∧ b < H.bd) _ _ := K.okk (fun b hb hlt => ⟨hb, hlt⟩) h
    exact K.okk (fun b hb _ => ⟨.inl hb.1, fun e => by have := (h2.blk b e).1; have := hb.2; omega⟩) (K.but h1 (fun _ _ _ f => f) (fun _ f => f.elim) h0)
end
variable {W : World} {H : Hp}

theorem bd31_0_2 (x0 y0 y1 : Int) : Try.prog.built 31 [(0, .int .i64 x0), (2, .agg #[.int .i64 y0, .int .i64 y1, .slice none 0 0])] = some #[.int .i64 x0, .slice none 0 0, .int .i64 y0, .int .i64 y1, .slice none 0 0] := by kernel_rfl

set_option maxRecDepth 100000 in
theorem specTR_ok {vo v : Value} {o : List Int} {l : List (List Int)} {oko ok : Nat → Prop} (n p k : Int) (ho : RdK kI W H oko vo o) (hr : RdK (kR kI) W H ok v l) : ACalls Try.prog W 34 #[.agg #[.int .i64 n, vo, .int .i64 p, .int .i64 k, v]] H (fun r H' => (∃ (u v : Value) (B : Nat), r = .tuple #[.agg #[.int .i64 (zI (trC n o p k l) n), u, .int .i64 (zI (trC n o p k l) p), .int .i64 (zI (trC n o p k l) ((tcK p k o l).length : Int)), v], .int .i64 (trC n o p k l)] ∧ OwnK kI 2 W H' (fun b => H.bd ≤ b ∧ b < B) u (zL (trC n o p k l) (tcO p o l)) ∧ OwnD (kO 2 kI) 22 W H' (fun b => H.bd ≤ b ∧ B ≤ b) v (zL (trC n o p k l) (tcR p k o l))) ∧ Ext H H') := by
  refine ACalls.of (args := [.agg #[.int .i64 n, vo, .int .i64 p, .int .i64 k, v]]) Try.func34 rfl rfl ?_
  have X0 := Ext.refl H
  have hm1 := ho.max
  have hm2 := hr.max
  have hmx := hr.max
  refine AW.rs ?_
  refine AL.w rfl (.inl rfl) (WV.bx rfl rfl) ?_
  rintro _ H4 ⟨b3, rfl, hx5, hn6, hb7⟩
  have o8 := Nat.le_trans X0.bd hn6
  have X9 := Ext.trans X0 hx5
  have X10 := Ext.refl H4
  refine AL.w rfl (.inl rfl) (WV.al ze31 rfl) ?_
  rintro _ H12 ⟨b11, rfl, hx13, hn14, hb15⟩
  have o16 := Nat.le_trans X9.bd hn14
  have o17 := Nat.le_trans X10.bd hn14
  have ne18 : b3 ≠ b11 := by have := hb7.lt; omega
  have X19 := Ext.trans X9 hx13
  have X20 := Ext.trans X10 hx13
  have hb21 := hb7.ext hx13
  have X22 := Ext.refl H12
  refine AL.val rfl (.inl rfl) (HV.as rfl) ?_
  refine AL.nx ?_
  refine AW.seq ?_
  refine AW.rs ?_
  refine AL.w rfl (.inl rfl) (WV.call fn90 rfl (l04Ok_ok n p k (ho.ext X19) (hr.ext X19) (at_cells hb21 rfl))) ?_
  rintro _ H23 ⟨rfl, hx24⟩
  have X25 := Ext.trans X19 hx24
  have X26 := Ext.trans X20 hx24
  have X27 := Ext.trans X22 hx24
  have hb28 := hb21.ext hx24
  have hb29 := hb15.ext hx24
  refine AL.val rfl (.inl rfl) (HV.not rfl) ?_
  refine AL.nx ?_
  refine AW.ifn rfl (fun c30 => ?_) (fun c30 => ?_)
  · -- then
    refine AW.rs ?_
    refine AL.val rfl (.inl rfl) (HV.bd rfl (bd31_ )) ?_
    refine AL.w0 (.inl rfl) (WV.st rfl rfl va31 rfl hb29 (Nat.le_of_ble_eq_true rfl) (one_cons rfl (one_cons (sl_one1 ⟨none, 0, rfl⟩) (one_cons rfl (one_cons rfl (one_cons (sl_one1 ⟨none, 0, rfl⟩) one_nil)))))) ?_
    rintro _ H31 ⟨hx32, hb33⟩
    have X34 := Ext.thru X25 hx32 (fun z_ hz_ => by rw [hz_]; exact o16)
    have X35 := Ext.thru X26 hx32 (fun z_ hz_ => by rw [hz_]; exact o17)
    have q37 := Nat.le_trans X27.bd hx32.bd
    have hb38 := hb28.but hx32 ne18
    have hb39 : At W H31 b11 ⟨31, [.int .i64 0, (.slice none 0 0), .int .i64 0, .int .i64 0, (.slice none 0 0)], 5⟩ := hb33
    refine AL.val rfl (.inl rfl) (HV.as rfl) ?_
    refine AL.nx ?_
    refine AW.ret ?_
    refine ret_and ?_
    refine post_ct rfl rfl rfl va31 hb39 ?_ (.inr rfl)
    have hC := trC_1 c30; have hC0 : trC n o p k l ≠ 0 := (by omega); exact ⟨⟨.slice none 0 0, .slice none 0 0, 0, by rw [zI_no hC0, zI_no hC0, zI_no hC0, hC] <;> rfl, by rw [zL_no hC0]; exact OwnK.nil _, by rw [zL_no hC0]; exact OwnD.nil _⟩, X34⟩
  · -- else
    refine AW.skip ?_
    refine nrm_and ?_
    refine AW.rs ?_
    have hok : okSc n o p k l := by assumption
    have hF := okSc_f hok
    have hp := hF.pb
    have hk1 := hF.k1
    have hk0 := hF.k0
    have hF1 := hF.R
    have hF2 := hF.ol
    have hn7 := hF.hn
    have hob6 : ∀ x ∈ o, 0 ≤ x ∧ x ≤ 6 := fun x hx => by have := hF.ob x hx; omega
    refine AL.val rfl (.inl rfl) (HV.fa fl31_0 rfl) ?_
    refine AL.val rfl (.inl rfl) (HV.ld rfl va2 (at_cell hb28 rfl)) ?_
    refine AL.val rfl (.inl rfl) (HV.fa fl31_2 rfl) ?_
    refine AL.val rfl (.inl rfl) (HV.fa fl29_0 rfl) ?_
    refine AL.val rfl (.inl rfl) (HV.ld rfl va2 (at_cell_add (j := 2) hb28 rfl)) ?_
    refine AL.val rfl (.inl rfl) (HV.fa fl31_2 rfl) ?_
    refine AL.val rfl (.inl rfl) (HV.fa fl29_1 rfl) ?_
    refine AL.val rfl (.inl rfl) (HV.ld rfl va2 (at_cell_add (j := 3) hb28 rfl)) ?_
    refine AL.val rfl (.inl rfl) (HV.bd rfl (bd29_0_1 p k)) ?_
    refine AL.val rfl (.inl rfl) (HV.bd rfl (bd31_0_2 n p k)) ?_
    refine AL.w rfl (.inl rfl) (WV.al ze31 rfl) ?_
    rintro _ H41 ⟨b40, rfl, hx42, hn43, hb44⟩
    have o45 := Nat.le_trans X25.bd hn43
    have o46 := Nat.le_trans X26.bd hn43
    have o47 := Nat.le_trans X27.bd hn43
    have ne48 : b3 ≠ b40 := by have := hb28.lt; omega
    have ne49 : b11 ≠ b40 := by have := hb29.lt; omega
    have X50 := Ext.trans X25 hx42
    have X51 := Ext.trans X26 hx42
    have X52 := Ext.trans X27 hx42
    have hb53 := hb28.ext hx42
    have hb54 := hb29.ext hx42
    have X55 := Ext.refl H41
    refine AL.w0 (.inl rfl) (WV.st rfl rfl va31 rfl hb44 (Nat.le_of_ble_eq_true rfl) (one_cons rfl (one_cons (sl_one1 ⟨none, 0, rfl⟩) (one_cons rfl (one_cons rfl (one_cons (sl_one1 ⟨none, 0, rfl⟩) one_nil)))))) ?_
    rintro _ H56 ⟨hx57, hb58⟩
    have X59 := Ext.thru X50 hx57 (fun z_ hz_ => by rw [hz_]; exact o45)
    have X60 := Ext.thru X51 hx57 (fun z_ hz_ => by rw [hz_]; exact o46)
    have X61 := Ext.thru X52 hx57 (fun z_ hz_ => by rw [hz_]; exact o47)
    have q63 := Nat.le_trans X55.bd hx57.bd
    have hb64 := hb53.but hx57 ne48
    have hb65 := hb54.but hx57 ne49
    have hb66 : At W H56 b40 ⟨31, [.int .i64 n, (.slice none 0 0), .int .i64 p, .int .i64 k, (.slice none 0 0)], 5⟩ := hb58
    refine AL.nx ?_
    refine AW.seq ?_
    refine AW.rs ?_
    refine AL.val rfl (.inl rfl) (HV.as rfl) ?_
    refine AL.nx ?_
    refine AW.block ?_
    have X67 := Ext.refl H56
    have y68 := hb64.lt
    have y69 := hb65.lt
    have y70 := hb66.lt
    have o71 := X59.bd
    have o72 := X60.bd
    have o73 := X61.bd
    have o74 := X67.bd
    have ho75 : OwnK kI 2 W H56 (fun b => (H56.bd ≤ b ∧ True)) (.slice none 0 0) ([] : List Int) := OwnK.nil _
    have ho76 : OwnD (kO 2 kI) 22 W H56 (fun b => (H56.bd ≤ b ∧ ¬ True)) (.slice none 0 0) ([] : List (List Int)) := OwnD.nil _
    refine AW.loop (σ := Nat × Value × Value × (Nat → Prop)) (fun ⟨i, vo_, vr_, S⟩ => [(1, .pointer (some ⟨b3, 0, none⟩)), (2, .pointer (some ⟨b11, 0, none⟩)), (3, .int .i64 0), (4, .pointer (some ⟨b40, 0, none⟩)), (5, .int .i64 (i : Int))]) (fun ⟨i, vo_, vr_, S⟩ H' => Ext H H' ∧ Ext H4 H' ∧ Ext H12 H' ∧ At W H' b3 ⟨31, [.int .i64 n, vo, .int .i64 p, .int .i64 k, v], 5⟩ ∧ At W H' b11 ⟨31, [.int .i64 0, (.slice none 0 0), .int .i64 0, .int .i64 0, (.slice none 0 0)], 5⟩ ∧ H56.bd ≤ H'.bd ∧ i ≤ o.length ∧ At W H' b40 ⟨31, [.int .i64 n, vo_, .int .i64 p, .int .i64 k, vr_], 5⟩ ∧ OwnK kI 2 W H' (fun b => (H56.bd ≤ b ∧ S b)) vo_ ((kpS p o l i).map (fun q => o.getD q.toNat 0)) ∧ OwnD (kO 2 kI) 22 W H' (fun b => (H56.bd ≤ b ∧ ¬ S b)) vr_ (partL l (kpS p o l i)) ∧ True) (fun ⟨i, vo_, vr_, S⟩ => o.length - i) (0, (.slice none 0 0), (.slice none 0 0), (fun _ => True)) ⟨X59, X60, X61, hb64, hb65, X67.bd, Nat.zero_le _, hb66, ho75, ho76, trivial⟩ ⟨rfl, rfl, rfl, rfl, rfl, trivial⟩ ?_
    rintro ⟨i, vo_, vr_, S⟩ H79 ⟨X80, X81, X82, hb83, hb84, q85, hi, hbB, hoO, hoR, _⟩
    have hki := kpS_in (p := p) (o := o) (l := l) i
    refine AW.seq ?_
    refine AW.rs ?_
    refine AL.val rfl (.inl rfl) (HV.mv rfl) ?_
    refine AL.val rfl (.inl rfl) (HV.fa fl31_1 rfl) ?_
    refine AL.val rfl (.inl rfl) (HV.ld rfl va22 (at_cell_add (j := 1) hb83 rfl)) ?_
    refine AL.val rfl (.inl rfl) (HV.len Try.underlying22 rfl ho.isSl) ?_
    refine AL.val rfl (.inl rfl) (HV.lti rfl rfl) ?_
    refine AL.nx ?_
    refine AW.ifd rfl (fun c86 => ?_) (fun c86 => ?_)
    · -- then
      refine AW.skip ?_
      refine nrm_and ?_
      refine AW.seq ?_
      refine AW.block ?_
      refine AW.rs ?_
      refine AL.val rfl (.inl rfl) (HV.fa fl31_2 rfl) ?_
      refine AL.val rfl (.inl rfl) (HV.fa fl29_0 rfl) ?_
      refine AL.val rfl (.inl rfl) (HV.ld rfl va2 (at_cell_add (j := 2) hb83 rfl)) ?_
      refine AL.val rfl (.inl rfl) (HV.fa fl31_2 rfl) ?_
      refine AL.val rfl (.inl rfl) (HV.fa fl29_1 rfl) ?_
      refine AL.val rfl (.inl rfl) (HV.ld rfl va2 (at_cell_add (j := 3) hb83 rfl)) ?_
      have X87 := Ext.refl H79
      have ho88 := hoO.okk (ok' := fun b => (H56.bd ≤ b ∧ S b) ∧ b < H79.bd) (fun b hb hlt => ⟨hb, hlt⟩)
      have ho89 := hoR.okk (ok' := fun b => (H56.bd ≤ b ∧ ¬ S b) ∧ b < H79.bd) (fun b hb hlt => ⟨hb, hlt⟩)
      refine AL.val rfl (.inl rfl) (HV.bd rfl (bd29_0_1 p k)) ?_
      refine AL.w rfl (.inl rfl) (WV.al ze29 rfl) ?_
      rintro _ H91 ⟨b90, rfl, hx92, hn93, hb94⟩
      have o95 := Nat.le_trans X80.bd hn93
      have o96 := Nat.le_trans X81.bd hn93
      have o97 := Nat.le_trans X82.bd hn93
      have o98 := Nat.le_trans X87.bd hn93
      have o99 := Nat.le_trans q85 hn93
      have ne100 : b3 ≠ b90 := by have := hb83.lt; omega
      have ne101 : b11 ≠ b90 := by have := hb84.lt; omega
      have ne102 : b40 ≠ b90 := by have := hbB.lt; omega
      have q103 := Nat.le_trans q85 hx92.bd
      have X104 := Ext.trans X80 hx92
      have X105 := Ext.trans X81 hx92
      have X106 := Ext.trans X82 hx92
      have X107 := Ext.trans X87 hx92
      have ho108 := ho88.ext hx92
      have ho109 := ho89.ext hx92
      have hb110 := hb83.ext hx92
      have hb111 := hb84.ext hx92
      have hb112 := hbB.ext hx92
      have X113 := Ext.refl H91
      refine AL.w0 (.inl rfl) (WV.st rfl rfl va29 rfl hb94 (Nat.le_of_ble_eq_true rfl) (one_cons rfl (one_cons rfl (one_cons (sl_one1 ⟨none, 0, rfl⟩) one_nil)))) ?_
      rintro _ H114 ⟨hx115, hb116⟩
      have q117 := Nat.le_trans q103 hx115.bd
      have X118 := Ext.thru X104 hx115 (fun z_ hz_ => by rw [hz_]; exact o95)
      have X119 := Ext.thru X105 hx115 (fun z_ hz_ => by rw [hz_]; exact o96)
      have X120 := Ext.thru X106 hx115 (fun z_ hz_ => by rw [hz_]; exact o97)
      have X121 := Ext.thru X107 hx115 (fun z_ hz_ => by rw [hz_]; exact o98)
      have q123 := Nat.le_trans X113.bd hx115.bd
      have ho124 := ho108.but hx115 (fun b hb _ e => by have hb' : (H56.bd ≤ b ∧ S b) ∧ b < H79.bd := hb; have e' : b = b90 := e; omega) (fun z_ hz_ => by rw [hz_]; exact hb94.w)
      have ho125 := ho109.but hx115 (fun b hb _ e => by have hb' : (H56.bd ≤ b ∧ ¬ S b) ∧ b < H79.bd := hb; have e' : b = b90 := e; omega) (fun z_ hz_ => by rw [hz_]; exact hb94.w)
      have hb126 := hb110.but hx115 ne100
      have hb127 := hb111.but hx115 ne101
      have hb128 := hb112.but hx115 ne102
      have hb129 : At W H114 b90 ⟨29, [.int .i64 p, .int .i64 k, (.slice none 0 0)], 3⟩ := hb116
      refine AL.nx ?_
      refine AW.seq ?_
      refine AW.rs ?_
      refine AL.val rfl (.inl rfl) (HV.as rfl) ?_
      refine AL.nx ?_
      refine AW.block ?_
      have X130 := Ext.refl H114
      have y131 := hb126.lt
      have y132 := hb127.lt
      have y133 := hb128.lt
      have y134 := hb129.lt
      have o135 := X118.bd
      have o136 := X119.bd
      have o137 := X120.bd
      have o138 := X121.bd
      have o139 := X130.bd
      have a140 := ho124.ltb
      have a141 := ho125.ltb
      have ho142 : OwnK (kR kI) 22 W H114 (fun b => b < H.bd ∨ H114.bd ≤ b) (.slice none 0 0) ([] : List (List Int)) := OwnK.nil _
      have vb144 : ∀ b, some b = (Value.slice none 0 0).ownBlock → H114.bd ≤ b := fun b h => by cases h
      refine AW.loop (σ := Nat × Value) (fun ⟨j, vb_⟩ => [(1, .pointer (some ⟨b3, 0, none⟩)), (2, .pointer (some ⟨b11, 0, none⟩)), (3, .int .i64 0), (4, .pointer (some ⟨b40, 0, none⟩)), (5, .int .i64 (i : Int)), (6, .pointer (some ⟨b90, 0, none⟩)), (28, .int .i64 (i : Int)), (29, .pointer (some ⟨b3, 1, none⟩)), (30, vo), (31, .int .i64 (o.length : Int)), (32, .bool (decide ((i : Int) < (o.length : Int)))), (35, .pointer (some ⟨b3, 2, none⟩)), (36, .pointer (some ⟨b3, 2, none⟩)), (37, .int .i64 p), (38, .pointer (some ⟨b3, 2, none⟩)), (39, .pointer (some ⟨b3, 3, none⟩)), (40, .int .i64 k), (41, .agg #[.int .i64 p, .int .i64 k, (.slice none 0 0)]), (7, .int .i64 (j : Int))]) (fun ⟨j, vb_⟩ H' => Ext H H' ∧ Ext H4 H' ∧ Ext H12 H' ∧ At W H' b3 ⟨31, [.int .i64 n, vo, .int .i64 p, .int .i64 k, v], 5⟩ ∧ At W H' b11 ⟨31, [.int .i64 0, (.slice none 0 0), .int .i64 0, .int .i64 0, (.slice none 0 0)], 5⟩ ∧ At W H' b40 ⟨31, [.int .i64 n, vo_, .int .i64 p, .int .i64 k, vr_], 5⟩ ∧ H56.bd ≤ H'.bd ∧ H114.bd ≤ H'.bd ∧ H79.bd ≤ H'.bd ∧ j ≤ i ∧ At W H' b90 ⟨29, [.int .i64 p, .int .i64 k, vb_], 3⟩ ∧ OwnK (kR kI) 22 W H' (fun b => b < H.bd ∨ H114.bd ≤ b) vb_ (partL l (idxB (owH (o.getD i 0)) o j)) ∧ (∀ b, some b = vb_.ownBlock → H114.bd ≤ b) ∧ OwnK kI 2 W H' (fun b => (H56.bd ≤ b ∧ S b) ∧ b < H79.bd) vo_ ((kpS p o l i).map (fun q => o.getD q.toNat 0)) ∧ OwnD (kO 2 kI) 22 W H' (fun b => (H56.bd ≤ b ∧ ¬ S b) ∧ b < H79.bd) vr_ (partL l (kpS p o l i)) ∧ True) (fun ⟨j, vb_⟩ => i - j) (0, (.slice none 0 0)) ⟨X118, X119, X120, hb126, hb127, hb128, q117, X130.bd, X121.bd, Nat.zero_le _, hb129, ho142, vb144, ho124, ho125, trivial⟩ ⟨rfl, rfl, rfl, rfl, rfl, rfl, rfl, rfl, rfl, rfl, rfl, rfl, rfl, rfl, rfl, rfl, rfl, rfl, rfl, trivial⟩ ?_
      rintro ⟨j, vb_⟩ H145 ⟨X146, X147, X148, hb149, hb150, hb151, q152, q153, q154, hj, hbC, hoB, hvb, hoO, hoR, _⟩
      have hbl := idxB_len (f := owH (o.getD i 0)) (o := o) j
      refine AW.seq ?_
      refine AW.rs ?_
      refine AL.val rfl (.inl rfl) (HV.mv rfl) ?_
      refine AL.val rfl (.inl rfl) (HV.mv rfl) ?_
      refine AL.val rfl (.inl rfl) (HV.lti rfl rfl) ?_
      refine AL.nx ?_
      refine AW.ifd rfl (fun c155 => ?_) (fun c155 => ?_)
      · -- then
        refine AW.skip ?_
        refine nrm_and ?_
        refine AW.seq ?_
        refine AW.block ?_
        refine AW.seq ?_
        refine AW.draw' [0, 1, 0, 7, 15, 0, 32, 0, 224, 480, 1023] mixed (by rfl) ?_
        refine Dr.read 0 _ 47 _ rfl rfl rfl rfl rfl (RV.of (by intro _ _ h; cases h) (.inl rfl) (fun _ xd => HV.fa fl31_1 rfl)) ?_
        refine Dr.read 1 _ 48 _ rfl rfl rfl rfl rfl (RV.of (by intro _ _ h; cases h) (.inl rfl) (fun _ xd => HV.ld rfl va22 (rdc_ext xd (at_cell_add (j := 1) hb149 rfl)))) ?_
        refine Dr.read 2 _ 49 _ rfl rfl rfl rfl rfl (RV.of (by intro _ _ h; cases h) (.inl rfl) (fun _ xd => HV.mv rfl)) ?_
        obtain ⟨p156, z157, cs158, hz159, hK160, hC161, hP162⟩ := RdK.ix (q := (j : Int)) ho sl22 (by omega) (by omega)
        obtain rfl : cs158 = [.int .i64 z157] := hK160
        refine Dr.read 3 _ 50 _ rfl rfl rfl rfl rfl (RV.of (by intro _ _ h; cases h) (.inl rfl) (fun _ xd => hP162 rfl rfl)) ?_
        refine Dr.read 4 _ 51 _ rfl rfl rfl rfl rfl (RV.of (by intro _ _ h; cases h) (.inl rfl) (fun _ xd => HV.ld rfl va2 (rdc_ext xd (cells_first (hC161.ext X146) rfl)))) ?_
        refine Dr.read 5 _ 52 _ rfl rfl rfl rfl rfl (RV.of (by intro _ _ h; cases h) (.inl rfl) (fun _ xd => HV.fa fl31_1 rfl)) ?_
        refine Dr.read 6 _ 53 _ rfl rfl rfl rfl rfl (RV.of (by intro _ _ h; cases h) (.inl rfl) (fun _ xd => HV.ld rfl va22 (rdc_ext xd (at_cell_add (j := 1) hb149 rfl)))) ?_
        refine Dr.read 7 _ 54 _ rfl rfl rfl rfl rfl (RV.of (by intro _ _ h; cases h) (.inl rfl) (fun _ xd => HV.mv rfl)) ?_
        obtain ⟨p163, z164, cs165, hz166, hK167, hC168, hP169⟩ := RdK.ix (q := (i : Int)) ho sl22 (by omega) (by omega)
        obtain rfl : cs165 = [.int .i64 z164] := hK167
        refine Dr.read 8 _ 55 _ rfl rfl rfl rfl rfl (RV.of (by intro _ _ h; cases h) (.inl rfl) (fun _ xd => hP169 rfl rfl)) ?_
        refine Dr.read 9 _ 56 _ rfl rfl rfl rfl rfl (RV.of (by intro _ _ h; cases h) (.inl rfl) (fun _ xd => HV.ld rfl va2 (rdc_ext xd (cells_first (hC168.ext X146) rfl)))) ?_
        refine Dr.read 10 _ 57 _ rfl rfl rfl rfl rfl (RV.of (by intro _ _ h; cases h) (.inl rfl) (fun _ xd => HV.eqi rfl rfl)) ?_
        refine Dr.fin rfl ?_
        refine nrm_and ?_
        refine AW.ifd rfl (fun c170 => ?_) (fun c170 => ?_)
        · -- then
          refine AW.draw' [0, 1, 0, 4, 12, 0, 60, 124, 252, 511, 1023, 2047] mixed (by rfl) ?_
          refine Dr.read 0 _ 58 _ rfl rfl rfl rfl rfl (RV.of (by intro _ _ h; cases h) (.inl rfl) (fun _ xd => HV.fa fl29_2 rfl)) ?_
          refine Dr.read 1 _ 59 _ rfl rfl rfl rfl rfl (RV.of (by intro _ _ h; cases h) (.inl rfl) (fun _ xd => HV.ld rfl va23 (rdc_ext xd (at_cell_add (j := 2) hbC rfl)))) ?_
          refine Dr.read 2 _ 60 _ rfl rfl rfl rfl rfl (RV.of (by intro _ _ h; cases h) (.inl rfl) (fun _ xd => HV.fa fl31_2 rfl)) ?_
          refine Dr.read 3 _ 61 _ rfl rfl rfl rfl rfl (RV.of (by intro _ _ h; cases h) (.inl rfl) (fun _ xd => HV.fa fl29_2 rfl)) ?_
          refine Dr.read 4 _ 62 _ rfl rfl rfl rfl rfl (RV.of (by intro _ _ h; cases h) (.inl rfl) (fun _ xd => HV.ld rfl va23 (rdc_ext xd (at_cell_add (j := 4) hb149 rfl)))) ?_
          refine Dr.read 5 _ 63 _ rfl rfl rfl rfl rfl (RV.of (by intro _ _ h; cases h) (.inl rfl) (fun _ xd => HV.mv rfl)) ?_
          obtain ⟨p171, z172, cs173, hz174, hK175, hC176, hP177⟩ := RdK.ix (q := (j : Int)) hr sl23 (by omega) (by omega)
          obtain ⟨v178, rfl, hr179⟩ := hK175
          have hm180 := hr179.max
          refine Dr.read 6 _ 64 _ rfl rfl rfl rfl rfl (RV.of (by intro _ _ h; cases h) (.inl rfl) (fun _ xd => hP177 rfl rfl)) ?_
          refine Dr.read 7 _ 65 _ rfl rfl rfl rfl rfl (RV.of (by intro _ _ h; cases h) (.inl rfl) (fun _ xd => HV.ld rfl va22 (rdc_ext xd (cells_first (hC176.ext X146) rfl)))) ?_
          have X187 := Ext.refl H145
          have y188 := hb149.lt
          have y189 := hb150.lt
          have y190 := hb151.lt
          have y191 := hbC.lt
          have o192 := X146.bd
          have o193 := X147.bd
          have o194 := X148.bd
          have o195 := X187.bd
          have a196 := hoB.ltb
          have a197 := hoO.ltb
          have a198 := hoR.ltb
          have hr181 := (hr179).okk (ok' := fun b => b < H.bd) (fun b _ hlt => hlt)
          have hc182 : v178.cells = #[v178] := by obtain ⟨A, c, e⟩ := hr181.isSl; rw [e]; rfl
          refine Dr.eff 8 _ _ rfl (by intro d h; cases h; exact ⟨rfl, rfl⟩) rfl rfl rfl (EC.of (by intro _ _ h; cases h) (.inl rfl) (WV.bsR (okx := fun b => b < H.bd) (K := (kR kI)) (l := ([z172] : List (List Int))) (css := [[v178]]) sl23 rfl rfl (by simp [Instr.fill, hc182, kR, rng1]) rfl (segs_cons ⟨_, rfl, hr181.ext X146⟩ segs_nil))) (fun v H' h => .inl (h.1)) ?_
          rintro v183 H184 ⟨hx185, ho186, ho186_v⟩
          have q199 := Nat.le_trans q152 hx185.bd
          have q200 := Nat.le_trans q153 hx185.bd
          have q201 := Nat.le_trans q154 hx185.bd
          have X202 := Ext.trans X146 hx185
          have X203 := Ext.trans X147 hx185
          have X204 := Ext.trans X148 hx185
          have X205 := Ext.trans X187 hx185
          have ho206 := hoB.ext hx185
          have ho207 := hoO.ext hx185
          have ho208 := hoR.ext hx185
          have hb209 := hb149.ext hx185
          have hb210 := hb150.ext hx185
          have hb211 := hb151.ext hx185
          have hb212 := hbC.ext hx185
          have X221 := Ext.refl H184
          have a220 : ∀ b, some b = vb_.ownBlock → b < H145.bd := a196
          have y222 : H114.bd ≤ H145.bd := q153
          have y223 : H114.bd ≤ H184.bd := q200
          refine Dr.eff 9 _ _ rfl (by intro d h; cases h; exact ⟨rfl, rfl⟩) rfl rfl rfl (EC.of (by intro _ _ h; cases h) (.inl rfl) (WV.apk sl23 rfl rfl ho206 ho186.rd (by rw [partL_len]; simp only [List.length_singleton]; omega) (by rw [partL_len]; simp only [List.length_singleton]; omega) (fun b hb _ e => by have h1 := hvb b e; have h2 := a220 b e; have h3 : b < H.bd ∨ H145.bd ≤ b := hb; have h4 := o135; omega))) (fun v H' h => .inr (.inl rfl)) ?_
          rintro v213 H214 ⟨hx215, ho216, hb217⟩
          have ho218 := ho216.okk (ok' := fun b => b < H.bd ∨ H114.bd ≤ b) (fun b hb _ => by have q : (b < H.bd ∨ H114.bd ≤ b) ∨ (b < H.bd ∨ H145.bd ≤ b) ∨ H184.bd ≤ b := hb; omega)
          have vb219 : ∀ b, some b = v213.ownBlock → H114.bd ≤ b := fun b h => (hb217 b h).elim (fun e => hvb b e) (fun e => by have e1 : H184.bd ≤ b := e; omega)
          have q224 := Nat.le_trans q199 hx215.bd
          have q225 := Nat.le_trans q200 hx215.bd
          have q226 := Nat.le_trans q201 hx215.bd
          have X227 := Ext.thru X202 hx215 (fun b hb => Nat.le_trans o135 (hvb b hb))
          have X228 := Ext.thru X203 hx215 (fun b hb => Nat.le_trans o136 (hvb b hb))
          have X229 := Ext.thru X204 hx215 (fun b hb => Nat.le_trans o137 (hvb b hb))
          have q231 := Nat.le_trans X205.bd hx215.bd
          have q233 := Nat.le_trans X221.bd hx215.bd
          have ho234 := ho207.but hx215 (fun b hb _ e => by have h1 : (H56.bd ≤ b ∧ S b) ∧ b < H79.bd := hb; have h2 := hvb b e; omega) (fun b hb => (ho206.blk b hb).2.2)
          have ho235 := ho208.but hx215 (fun b hb _ e => by have h1 : (H56.bd ≤ b ∧ ¬ S b) ∧ b < H79.bd := hb; have h2 := hvb b e; omega) (fun b hb => (ho206.blk b hb).2.2)
          have hb236 := hb209.but hx215 (fun e => by have q := hvb _ e; omega)
          have hb237 := hb210.but hx215 (fun e => by have q := hvb _ e; omega)
          have hb238 := hb211.but hx215 (fun e => by have q := hvb _ e; omega)
          have hb239 := hb212.but hx215 (fun e => by have q := hvb _ e; omega)
          refine Dr.read 10 _ 68 _ rfl rfl rfl rfl rfl (RV.of (by intro _ _ h; cases h) (.inl rfl) (fun _ xd => HV.fa fl29_2 rfl)) ?_
          refine Dr.eff 11 _ _ rfl (by intro d h; cases h) rfl rfl rfl (EC.of (by intro _ _ h; cases h) (.inl rfl) (WV.st rfl rfl va23 (sl_size ho218.rd.isSl) hb239 (Nat.le_of_ble_eq_true rfl) (sl_one ho218.rd.isSl))) (fun v H' h => .inr (.inl rfl)) ?_
          rintro _ H240 ⟨hx241, hb242⟩
          rw [sl_cells ho218.rd.isSl] at hb242
          have q243 := Nat.le_trans q224 hx241.bd
          have q244 := Nat.le_trans q225 hx241.bd
          have q245 := Nat.le_trans q226 hx241.bd
          have q246 := Nat.le_trans q231 hx241.bd
          have q247 := Nat.le_trans q233 hx241.bd
          have X248 := Ext.thru X227 hx241 (fun z_ hz_ => by rw [hz_]; exact o95)
          have X249 := Ext.thru X228 hx241 (fun z_ hz_ => by rw [hz_]; exact o96)
          have X250 := Ext.thru X229 hx241 (fun z_ hz_ => by rw [hz_]; exact o97)
          have ho251 := ho218.but hx241 (fun b hb _ e => by have hb' : b < H.bd ∨ H114.bd ≤ b := hb; have e' : b = b90 := e; omega) (fun z_ hz_ => by rw [hz_]; exact hb239.w)
          have ho252 := ho234.but hx241 (fun b hb _ e => by have hb' : (H56.bd ≤ b ∧ S b) ∧ b < H79.bd := hb; have e' : b = b90 := e; omega) (fun z_ hz_ => by rw [hz_]; exact hb239.w)
          have ho253 := ho235.but hx241 (fun b hb _ e => by have hb' : (H56.bd ≤ b ∧ ¬ S b) ∧ b < H79.bd := hb; have e' : b = b90 := e; omega) (fun z_ hz_ => by rw [hz_]; exact hb239.w)
          have hb254 := hb236.but hx241 ne100
          have hb255 := hb237.but hx241 ne101
          have hb256 := hb238.but hx241 ne102
          have hb257 : At W H240 b90 ⟨29, [.int .i64 p, .int .i64 k, v213], 3⟩ := hb242
          refine Dr.fin rfl ?_
          refine nrm_blk (nrm_and ?_)
          refine AW.reg ?_
          refine AL.val rfl (.inl rfl) (HV.mv rfl) ?_
          refine AL.val rfl (.inl rfl) (HV.add rfl rfl (by omega)) ?_
          refine AL.val rfl (.inl rfl) (HV.as rfl) ?_
          refine AL.nil ?_
          refine nrm_and ?_
          exact ⟨(j + 1, v213), ⟨X248, X249, X250, hb254, hb255, hb256, q243, q244, q245, by omega, hb257, by rw [idxB_yes hz159 (by unfold owH; rw [(gd hz166 rfl : o.getD i 0 = z164)]; simpa using c170)]; unfold partL; rw [List.map_append, List.map_cons, List.map_nil, Int.toNat_natCast, (gd hz174 rfl : l.getD j [] = z172)]; exact ho251, vb219, ho252, ho253, trivial⟩, by first | omega | (dsimp only; omega), ⟨rfl, rfl, rfl, rfl, rfl, rfl, rfl, rfl, rfl, rfl, rfl, rfl, rfl, rfl, rfl, rfl, rfl, rfl, rfl, trivial⟩⟩
        · -- else
          refine AW.skip ?_
          refine nrm_blk (nrm_and ?_)
          refine AW.reg ?_
          refine AL.val rfl (.inl rfl) (HV.mv rfl) ?_
          refine AL.val rfl (.inl rfl) (HV.add rfl rfl (by omega)) ?_
          refine AL.val rfl (.inl rfl) (HV.as rfl) ?_
          refine AL.nil ?_
          refine nrm_and ?_
          exact ⟨(j + 1, vb_), ⟨X146, X147, X148, hb149, hb150, hb151, q152, q153, q154, by omega, hbC, by rw [idxB_no hz159 (by unfold owH; rw [(gd hz166 rfl : o.getD i 0 = z164)]; simpa using c170)]; exact hoB, hvb, hoO, hoR, trivial⟩, by first | omega | (dsimp only; omega), ⟨rfl, rfl, rfl, rfl, rfl, rfl, rfl, rfl, rfl, rfl, rfl, rfl, rfl, rfl, rfl, rfl, rfl, rfl, rfl, trivial⟩⟩
      · -- else
        refine AW.exit ?_
        refine ex_and (ex_and (ex_blk ?_))
        refine nrm_and ?_
        refine AW.rs ?_
        refine AL.val rfl (.inl rfl) (HV.fa fl31_2 rfl) ?_
        refine AL.val rfl (.inl rfl) (HV.fa fl29_2 rfl) ?_
        refine AL.val rfl (.inl rfl) (HV.ld rfl va23 (at_cell_add (j := 4) hb149 rfl)) ?_
        refine AL.val rfl (.inl rfl) (HV.mv rfl) ?_
        obtain ⟨p258, z259, cs260, hz261, hK262, hC263, hP264⟩ := RdK.ix (q := (i : Int)) hr sl23 (by omega) (by omega)
        obtain ⟨v265, rfl, hr266⟩ := hK262
        have hm267 := hr266.max
        refine AL.val rfl (.inl rfl) (hP264 rfl rfl) ?_
        refine AL.val rfl (.inl rfl) (HV.ld rfl va22 (cells_first (hC263.ext X146) rfl)) ?_
        have ho268 : OwnK (kR kI) 22 W H145 (fun b => b < H.bd ∨ H114.bd ≤ b) vb_ (befR o l i) := by have e : j = i := (by omega); have q := hoB; rw [e] at q; exact q
        have hbr := part_rect hF.r (fun q hq => by have := idxB_in i q hq; omega : ∀ q ∈ idxB (owH (o.getD i 0)) o i, 0 ≤ q ∧ q < l.length)
        have hbn : (befR o l i).length ≤ i := by unfold befR; rw [partL_len]; exact idxB_len i
        have hz75 : l.getD i [] = z259 := gd hz261 rfl
        have X269 := Ext.refl H145
        have y270 := hb149.lt
        have y271 := hb150.lt
        have y272 := hb151.lt
        have y273 := hbC.lt
        have o274 := X146.bd
        have o275 := X147.bd
        have o276 := X148.bd
        have o277 := X269.bd
        have a278 := ho268.ltb
        have a279 := hoO.ltb
        have a280 := hoR.ltb
        refine AL.w rfl (.inl rfl) (WV.call fn80 rfl (specComb_ok p k ho268.rd (at_cells hbC rfl) (hr266.ext X146) (K := k.toNat) hF.q hk0 hbr (by omega) (by omega) (rect_at hF.r hz261).2 (rect_at hF.r hz261).1)) ?_
        rintro _ H282 ⟨⟨u281, rfl, hv284⟩, hx283⟩
        have q285 := Nat.le_trans q152 hx283.bd
        have q286 := Nat.le_trans q153 hx283.bd
        have q287 := Nat.le_trans q154 hx283.bd
        have X288 := Ext.trans X146 hx283
        have X289 := Ext.trans X147 hx283
        have X290 := Ext.trans X148 hx283
        have X291 := Ext.trans X269 hx283
        have ho292 := ho268.ext hx283
        have ho293 := hoO.ext hx283
        have ho294 := hoR.ext hx283
        have hb295 := hb149.ext hx283
        have hb296 := hb150.ext hx283
        have hb297 := hb151.ext hx283
        have hb298 := hbC.ext hx283
        have X299 := Ext.refl H282
        have hr300 := hv284.rd
        refine AL.val rfl (.inl rfl) (HV.mv rfl) ?_
        refine AL.val rfl (.inl rfl) (HV.ex rfl rfl) ?_
        refine AL.val rfl (.inl rfl) (HV.ex rfl rfl) ?_
        refine AL.val rfl (.inl rfl) (HV.as rfl) ?_
        refine AL.val rfl (.inl rfl) (HV.as rfl) ?_
        refine AL.nx ?_
        refine AW.rs ?_
        refine AL.val rfl (.inl rfl) (HV.mv rfl) ?_
        refine AL.val rfl (.inl rfl) (HV.not rfl) ?_
        refine AL.nx ?_
        refine AW.cond rfl (fun c301 => ?_) (fun c301 => ?_)
        · -- then
          refine AW.seq ?_
          refine AW.draw' [0, 1, 0, 4, 0, 28, 60, 124, 255, 511, 1023] mixed (by rfl) ?_
          have hcb : (combI p (befR o l i) (l.getD i [])).2 = false := by rw [hz75]; exact bnot_t c301
          refine Dr.read 0 _ 81 _ rfl rfl rfl rfl rfl (RV.of (by intro _ _ h; cases h) (.inl rfl) (fun _ xd => HV.fa fl31_1 rfl)) ?_
          refine Dr.read 1 _ 82 _ rfl rfl rfl rfl rfl (RV.of (by intro _ _ h; cases h) (.inl rfl) (fun _ xd => HV.ld rfl va22 (rdc_ext xd (at_cell_add (j := 1) hb297 rfl)))) ?_
          refine Dr.read 2 _ 83 _ rfl rfl rfl rfl rfl (RV.of (by intro _ _ h; cases h) (.inl rfl) (fun _ xd => HV.fa fl31_1 rfl)) ?_
          refine Dr.read 3 _ 84 _ rfl rfl rfl rfl rfl (RV.of (by intro _ _ h; cases h) (.inl rfl) (fun _ xd => HV.ld rfl va22 (rdc_ext xd (at_cell_add (j := 1) hb295 rfl)))) ?_
          refine Dr.read 4 _ 85 _ rfl rfl rfl rfl rfl (RV.of (by intro _ _ h; cases h) (.inl rfl) (fun _ xd => HV.mv rfl)) ?_
          obtain ⟨p302, z303, cs304, hz305, hK306, hC307, hP308⟩ := RdK.ix (q := (i : Int)) ho sl22 (by omega) (by omega)
          obtain rfl : cs304 = [.int .i64 z303] := hK306
          refine Dr.read 5 _ 86 _ rfl rfl rfl rfl rfl (RV.of (by intro _ _ h; cases h) (.inl rfl) (fun _ xd => hP308 rfl rfl)) ?_
          refine Dr.read 6 _ 87 _ rfl rfl rfl rfl rfl (RV.of (by intro _ _ h; cases h) (.inl rfl) (fun _ xd => HV.ld rfl va2 (rdc_ext xd (cells_first (hC307.ext X288) rfl)))) ?_
          have y309 := hb295.lt
          have y310 := hb296.lt
          have y311 := hb297.lt
          have o312 := X288.bd
          have o313 := X289.bd
          have o314 := X290.bd
          have o315 := X291.bd
          have o316 := X299.bd
          have a317 := ho293.ltb
          have a318 := ho294.ltb
          refine Dr.eff 7 _ _ rfl (by intro d h; cases h; exact ⟨rfl, rfl⟩) rfl rfl rfl (EC.of (by intro _ _ h; cases h) (.inl rfl) (WV.bsK (K := kI) (l := ([z303] : List Int)) (css := [[.int .i64 z303]]) sl22 rfl rfl (by first | rfl | (simp [Instr.fill, Value.cells, kI, kB, kU, kU8, kS, Kd.sc]; done) | (simp [Instr.fill, Value.cells, kI, kB, kU, kU8, kS, Kd.sc, rng1, rng2, rng3, rng4, kP])) rfl (segs_cons rfl segs_nil))) (fun v H' h => .inl (h.1)) ?_
          rintro v319 H320 ⟨hx321, ho322⟩
          have q323 := Nat.le_trans q285 hx321.bd
          have q324 := Nat.le_trans q286 hx321.bd
          have q325 := Nat.le_trans q287 hx321.bd
          have X326 := Ext.trans X288 hx321
          have X327 := Ext.trans X289 hx321
          have X328 := Ext.trans X290 hx321
          have X329 := Ext.trans X291 hx321
          have X330 := Ext.trans X299 hx321
          have ho331 := ho293.ext hx321
          have ho332 := ho294.ext hx321
          have hb333 := hb295.ext hx321
          have hb334 := hb296.ext hx321
          have hb335 := hb297.ext hx321
          have X346 := Ext.refl H320
          have y347 : H56.bd ≤ H320.bd := q323
          have y348 : H79.bd ≤ H320.bd := q325
          refine Dr.eff 8 _ _ rfl (by intro d h; cases h; exact ⟨rfl, rfl⟩) rfl rfl rfl (EC.of (by intro _ _ h; cases h) (.inl rfl) (WV.apk sl22 rfl rfl ho331 ho322.rd (by simp only [List.length_map, List.length_singleton]; omega) (by simp only [List.length_map, List.length_singleton]; omega) (fun b hb _ e => by have h1 := (ho331.blk b e).1.2; have h2 : H282.bd ≤ b := hb; omega))) (fun v H' h => .inr (.inl rfl)) ?_
          rintro v337 H338 ⟨hx339, ho340, hb341⟩
          obtain ⟨S344, hS345⟩ : ∃ S1 : Nat → Prop, ∀ b, S1 b ↔ ((b < H320.bd ∧ S b) ∨ H320.bd ≤ b) := ⟨_, fun _ => Iff.rfl⟩
          have ho342 := ho340.narrow (ok' := fun b => (H56.bd ≤ b ∧ S344 b)) kI_flat (fun b q => (hb341 b q).elim (fun e => ⟨(ho331.blk b e).1.1.1, (hS345 b).2 (.inl ⟨(ho331.blk b e).2.1, (ho331.blk b e).1.1.2⟩)⟩) (fun e => ⟨by have e1 : H320.bd ≤ b := e; omega, (hS345 b).2 (.inr e)⟩))
          have q349 := Nat.le_trans q323 hx339.bd
          have q350 := Nat.le_trans q324 hx339.bd
          have q351 := Nat.le_trans q325 hx339.bd
          have X352 := Ext.thru X326 hx339 (fun b hb => Nat.le_trans o71 (ho331.blk b hb).1.1.1)
          have X353 := Ext.thru X327 hx339 (fun b hb => Nat.le_trans o72 (ho331.blk b hb).1.1.1)
          have X354 := Ext.thru X328 hx339 (fun b hb => Nat.le_trans o73 (ho331.blk b hb).1.1.1)
          have q356 := Nat.le_trans X329.bd hx339.bd
          have q358 := Nat.le_trans X330.bd hx339.bd
          have q360 := Nat.le_trans X346.bd hx339.bd
          have ho361 := ho332.but hx339 (fun b hb _ e => hb.1.2 (ho331.blk b e).1.1.2) (fun b hb => (ho331.blk b hb).2.2)
          have hb362 := hb333.but hx339 (fun e => by have q : H56.bd ≤ _ := (ho331.blk _ e).1.1.1; omega)
          have hb363 := hb334.but hx339 (fun e => by have q : H56.bd ≤ _ := (ho331.blk _ e).1.1.1; omega)
          have hb364 := hb335.but hx339 (fun e => by have q : H56.bd ≤ _ := (ho331.blk _ e).1.1.1; omega)
          have ho343 := ho361.okk (ok' := fun b => (H56.bd ≤ b ∧ ¬ S344 b)) (fun b hb _ => ⟨hb.1.1, fun s => ((hS345 b).1 s).elim (fun q => hb.1.2 q.2) (fun q => by have h1 := hb.2; have q1 : H320.bd ≤ b := q; omega)⟩)
          refine Dr.read 9 _ 90 _ rfl rfl rfl rfl rfl (RV.of (by intro _ _ h; cases h) (.inl rfl) (fun _ xd => HV.fa fl31_1 rfl)) ?_
          refine Dr.eff 10 _ _ rfl (by intro d h; cases h) rfl rfl rfl (EC.of (by intro _ _ h; cases h) (.inl rfl) (WV.st rfl rfl va22 (sl_size ho342.rd.isSl) hb364 (Nat.le_of_ble_eq_true rfl) (sl_one ho342.rd.isSl))) (fun v H' h => .inr (.inl rfl)) ?_
          rintro _ H365 ⟨hx366, hb367⟩
          rw [sl_cells ho342.rd.isSl] at hb367
          have q368 := Nat.le_trans q349 hx366.bd
          have q369 := Nat.le_trans q350 hx366.bd
          have q370 := Nat.le_trans q351 hx366.bd
          have q371 := Nat.le_trans q356 hx366.bd
          have q372 := Nat.le_trans q358 hx366.bd
          have q373 := Nat.le_trans q360 hx366.bd
          have X374 := Ext.thru X352 hx366 (fun z_ hz_ => by rw [hz_]; exact o45)
          have X375 := Ext.thru X353 hx366 (fun z_ hz_ => by rw [hz_]; exact o46)
          have X376 := Ext.thru X354 hx366 (fun z_ hz_ => by rw [hz_]; exact o47)
          have ho377 := ho342.but hx366 (fun b hb _ e => by have hb' : (H56.bd ≤ b ∧ S344 b) := hb; have e' : b = b40 := e; omega) (fun z_ hz_ => by rw [hz_]; exact hb364.w)
          have ho378 := ho343.but hx366 (fun b hb _ e => by have hb' : (H56.bd ≤ b ∧ ¬ S344 b) := hb; have e' : b = b40 := e; omega) (fun z_ hz_ => by rw [hz_]; exact hb364.w)
          have hb379 := hb362.but hx366 ne48
          have hb380 := hb363.but hx366 ne49
          have hb381 : At W H365 b40 ⟨31, [.int .i64 n, v337, .int .i64 p, .int .i64 k, vr_], 5⟩ := hb367
          refine Dr.fin rfl ?_
          refine nrm_and ?_
          refine AW.draw' [0, 1, 3, 0, 8, 24, 0, 120, 248, 504, 1016, 2047, 4095, 8191, 16383] mixed (by rfl) ?_
          have X382 := Ext.refl H365
          have ho383 := ho377.okk (ok' := fun b => (H56.bd ≤ b ∧ S344 b) ∧ b < H365.bd) (fun b hb hlt => ⟨hb, hlt⟩)
          have ho384 := ho378.okk (ok' := fun b => (H56.bd ≤ b ∧ ¬ S344 b) ∧ b < H365.bd) (fun b hb hlt => ⟨hb, hlt⟩)
          refine Dr.read 0 _ 91 _ rfl rfl rfl rfl rfl (RV.of (by intro _ _ h; cases h) (.inl rfl) (fun _ xd => HV.fa fl31_2 rfl)) ?_
          refine Dr.read 1 _ 92 _ rfl rfl rfl rfl rfl (RV.of (by intro _ _ h; cases h) (.inl rfl) (fun _ xd => HV.fa fl29_2 rfl)) ?_
          refine Dr.read 2 _ 93 _ rfl rfl rfl rfl rfl (RV.of (by intro _ _ h; cases h) (.inl rfl) (fun _ xd => HV.ld rfl va23 (rdc_ext xd (at_cell_add (j := 4) hb381 rfl)))) ?_
          refine Dr.read 3 _ 94 _ rfl rfl rfl rfl rfl (RV.of (by intro _ _ h; cases h) (.inl rfl) (fun _ xd => HV.fa fl31_2 rfl)) ?_
          refine Dr.read 4 _ 95 _ rfl rfl rfl rfl rfl (RV.of (by intro _ _ h; cases h) (.inl rfl) (fun _ xd => HV.fa fl29_2 rfl)) ?_
          refine Dr.read 5 _ 96 _ rfl rfl rfl rfl rfl (RV.of (by intro _ _ h; cases h) (.inl rfl) (fun _ xd => HV.ld rfl va23 (rdc_ext xd (at_cell_add (j := 4) hb379 rfl)))) ?_
          refine Dr.read 6 _ 97 _ rfl rfl rfl rfl rfl (RV.of (by intro _ _ h; cases h) (.inl rfl) (fun _ xd => HV.mv rfl)) ?_
          obtain ⟨p385, z386, cs387, hz388, hK389, hC390, hP391⟩ := RdK.ix (q := (i : Int)) hr sl23 (by omega) (by omega)
          obtain ⟨v392, rfl, hr393⟩ := hK389
          have hm394 := hr393.max
          refine Dr.read 7 _ 98 _ rfl rfl rfl rfl rfl (RV.of (by intro _ _ h; cases h) (.inl rfl) (fun _ xd => hP391 rfl rfl)) ?_
          refine Dr.read 8 _ 99 _ rfl rfl rfl rfl rfl (RV.of (by intro _ _ h; cases h) (.inl rfl) (fun _ xd => HV.ld rfl va22 (rdc_ext xd (cells_first (hC390.ext X374) rfl)))) ?_
          have y395 := hb379.lt
          have y396 := hb380.lt
          have y397 := hb381.lt
          have o398 := X374.bd
          have o399 := X375.bd
          have o400 := X376.bd
          have o401 := X382.bd
          have a402 := ho383.ltb
          have a403 := ho384.ltb
          refine Dr.eff 9 _ _ rfl (by intro d h; cases h; exact ⟨rfl, rfl⟩) rfl rfl rfl (EC.of (by intro _ _ h; cases h) (.inl rfl) (WV.call fn85 rfl (l00Own_ok (hr393.ext X374) (by have := (rect_at hF.r hz388).1; omega)))) (fun v H' h => .inl (h.1)) ?_
          rintro v404 H405 ⟨hx406, ho407⟩
          have q408 := Nat.le_trans q368 hx406.bd
          have q409 := Nat.le_trans q369 hx406.bd
          have q410 := Nat.le_trans q370 hx406.bd
          have q411 := Nat.le_trans q371 hx406.bd
          have q412 := Nat.le_trans q372 hx406.bd
          have q413 := Nat.le_trans q373 hx406.bd
          have X414 := Ext.trans X374 hx406
          have X415 := Ext.trans X375 hx406
          have X416 := Ext.trans X376 hx406
          have X417 := Ext.trans X382 hx406
          have ho418 := ho383.ext hx406
          have ho419 := ho384.ext hx406
          have hb420 := hb379.ext hx406
          have hb421 := hb380.ext hx406
          have hb422 := hb381.ext hx406
          have X424 := Ext.refl H405
          have y425 := hb420.lt
          have y426 := hb421.lt
          have y427 := hb422.lt
          have o428 := X414.bd
          have o429 := X415.bd
          have o430 := X416.bd
          have o431 := X417.bd
          have o432 := X424.bd
          have a433 := ho418.ltb
          have a434 := ho419.ltb
          have a435 := ho407.ltb
          have hc440 : v404.cells = #[v404] := by obtain ⟨A, c, e⟩ := ho407.isSl; rw [e]; rfl
          refine Dr.eff 10 _ _ rfl (by intro d h; cases h; exact ⟨rfl, rfl⟩) rfl rfl rfl (EC.of (by intro _ _ h; cases h) (.inl rfl) (WV.bsO (okx := fun b => H365.bd ≤ b) (K := (kO 2 kI)) (l := ([z386] : List (List Int))) (css := [[v404]]) sl23 rfl rfl (by simp [Instr.fill, hc440, kO, rng1]) rfl (segs_cons ⟨_, rfl, ho407⟩ segs_nil))) (fun v H' h => .inl (h.1)) ?_
          rintro v436 H437 ⟨hx438, ho439⟩
          have q442 := Nat.le_trans q408 hx438.bd
          have q443 := Nat.le_trans q409 hx438.bd
          have q444 := Nat.le_trans q410 hx438.bd
          have q445 := Nat.le_trans q411 hx438.bd
          have q446 := Nat.le_trans q412 hx438.bd
          have q447 := Nat.le_trans q413 hx438.bd
          have X448 := Ext.trans X414 hx438
          have X449 := Ext.trans X415 hx438
          have X450 := Ext.trans X416 hx438
          have X451 := Ext.trans X417 hx438
          have X452 := Ext.trans X424 hx438
          have ho453 := ho418.ext hx438
          have ho454 := ho419.ext hx438
          have ho455 := ho407.ext hx438
          have hb456 := hb420.ext hx438
          have hb457 := hb421.ext hx438
          have hb458 := hb422.ext hx438
          have ho441 := ho439.okk (ok' := fun b => H365.bd ≤ b) (fun b hb _ => hb.elim id (fun e => Nat.le_trans X417.bd e))
          have X469 := Ext.refl H437
          have y470 : H56.bd ≤ H437.bd := q442
          refine Dr.eff 11 _ _ rfl (by intro d h; cases h; exact ⟨rfl, rfl⟩) rfl rfl rfl (EC.of (by intro _ _ h; cases h) (.inl rfl) (WV.apD (ok := fun b => (H56.bd ≤ b ∧ ¬ S344 b)) (B := H365.bd) sl23 rfl rfl ho454 ho441.rd X451.bd (by rw [partL_len]; omega) (by rw [partL_len]; omega))) (fun v H' h => .inr (.inl rfl)) ?_
          rintro v460 H461 ⟨hx462, ho463, hb464⟩
          obtain ⟨S467, hS468⟩ : ∃ S2 : Nat → Prop, ∀ b, S2 b ↔ (b < H365.bd ∧ S344 b) := ⟨_, fun _ => Iff.rfl⟩
          have ho465 := ho463.okk (ok' := fun b => (H56.bd ≤ b ∧ ¬ S467 b)) (fun b hb _ => hb.elim (fun q => ⟨q.1, fun s => q.2 ((hS468 b).1 s).2⟩) (fun q => ⟨by have q1 : H365.bd ≤ b := q; omega, fun s => by have q2 := ((hS468 b).1 s).1; have q1 : H365.bd ≤ b := q; omega⟩))
          have q471 := Nat.le_trans q442 hx462.bd
          have q472 := Nat.le_trans q443 hx462.bd
          have q473 := Nat.le_trans q444 hx462.bd
          have q474 := Nat.le_trans q445 hx462.bd
          have q475 := Nat.le_trans q446 hx462.bd
          have q476 := Nat.le_trans q447 hx462.bd
          have X477 := Ext.thru X448 hx462 (fun b hb => Nat.le_trans o71 (ho454.blk b hb).1.1.1)
          have X478 := Ext.thru X449 hx462 (fun b hb => Nat.le_trans o72 (ho454.blk b hb).1.1.1)
          have X479 := Ext.thru X450 hx462 (fun b hb => Nat.le_trans o73 (ho454.blk b hb).1.1.1)
          have q481 := Nat.le_trans X451.bd hx462.bd
          have q483 := Nat.le_trans X452.bd hx462.bd
          have q485 := Nat.le_trans X469.bd hx462.bd
          have ho486 := ho453.but hx462 (fun b hb _ e => (ho454.blk b e).1.1.2 hb.1.2) (fun b hb => (ho454.blk b hb).2.2)
          have hb487 := hb456.but hx462 (fun e => by have q : H56.bd ≤ _ := (ho454.blk _ e).1.1.1; omega)
          have hb488 := hb457.but hx462 (fun e => by have q : H56.bd ≤ _ := (ho454.blk _ e).1.1.1; omega)
          have hb489 := hb458.but hx462 (fun e => by have q : H56.bd ≤ _ := (ho454.blk _ e).1.1.1; omega)
          have ho466 := ho486.okk (ok' := fun b => (H56.bd ≤ b ∧ S467 b)) (fun b hb _ => ⟨hb.1.1, (hS468 b).2 ⟨hb.2, hb.1.2⟩⟩)
          refine Dr.read 12 _ 103 _ rfl rfl rfl rfl rfl (RV.of (by intro _ _ h; cases h) (.inl rfl) (fun _ xd => HV.fa fl31_2 rfl)) ?_
          refine Dr.read 13 _ 104 _ rfl rfl rfl rfl rfl (RV.of (by intro _ _ h; cases h) (.inl rfl) (fun _ xd => HV.fa fl29_2 rfl)) ?_
          refine Dr.eff 14 _ _ rfl (by intro d h; cases h) rfl rfl rfl (EC.of (by intro _ _ h; cases h) (.inl rfl) (WV.st rfl rfl va23 (sl_size (rd_ofO ho465.rd).isSl) hb489 (Nat.le_of_ble_eq_true rfl) (sl_one (rd_ofO ho465.rd).isSl))) (fun v H' h => .inr (.inl rfl)) ?_
          rintro _ H490 ⟨hx491, hb492⟩
          rw [sl_cells (rd_ofO ho465.rd).isSl] at hb492
          have q493 := Nat.le_trans q471 hx491.bd
          have q494 := Nat.le_trans q472 hx491.bd
          have q495 := Nat.le_trans q473 hx491.bd
          have q496 := Nat.le_trans q474 hx491.bd
          have q497 := Nat.le_trans q475 hx491.bd
          have q498 := Nat.le_trans q476 hx491.bd
          have q499 := Nat.le_trans q481 hx491.bd
          have q500 := Nat.le_trans q483 hx491.bd
          have q501 := Nat.le_trans q485 hx491.bd
          have X502 := Ext.thru X477 hx491 (fun z_ hz_ => by rw [hz_]; exact o45)
          have X503 := Ext.thru X478 hx491 (fun z_ hz_ => by rw [hz_]; exact o46)
          have X504 := Ext.thru X479 hx491 (fun z_ hz_ => by rw [hz_]; exact o47)
          have ho505 := ho466.but hx491 (fun b hb _ e => by have hb' : (H56.bd ≤ b ∧ S467 b) := hb; have e' : b = b40 := e; omega) (fun z_ hz_ => by rw [hz_]; exact hb489.w)
          have ho506 := ho465.but hx491 (fun b hb _ e => by have hb' : (H56.bd ≤ b ∧ ¬ S467 b) := hb; have e' : b = b40 := e; omega) (fun z_ hz_ => by rw [hz_]; exact hb489.w)
          have hb507 := hb487.but hx491 ne48
          have hb508 := hb488.but hx491 ne49
          have hb509 : At W H490 b40 ⟨31, [.int .i64 n, v337, .int .i64 p, .int .i64 k, v460], 5⟩ := hb492
          refine Dr.fin rfl ?_
          refine nrm_blk (nrm_and ?_)
          refine AW.reg ?_
          refine AL.val rfl (.inl rfl) (HV.mv rfl) ?_
          refine AL.val rfl (.inl rfl) (HV.add rfl rfl (by omega)) ?_
          refine AL.val rfl (.inl rfl) (HV.as rfl) ?_
          refine AL.nil ?_
          refine nrm_and ?_
          exact ⟨(i + 1, v337, v460, S467), ⟨X502, X503, X504, hb507, hb508, q493, by omega, hb509, by rw [show kpS p o l (i + 1) = kpS p o l i ++ [(i : Int)] by simp only [kpS]; rw [if_neg (by rw [hcb]; simp)], List.map_append, List.map_cons, List.map_nil, Int.toNat_natCast, (gd hz305 rfl : o.getD i 0 = z303)]; exact ho505, by rw [show kpS p o l (i + 1) = kpS p o l i ++ [(i : Int)] by simp only [kpS]; rw [if_neg (by rw [hcb]; simp)], show partL l (kpS p o l i ++ [(i : Int)]) = partL l (kpS p o l i) ++ [z386] by unfold partL; rw [List.map_append, List.map_cons, List.map_nil, Int.toNat_natCast, (gd hz388 rfl : l.getD i [] = z386)]]; exact ho506, trivial⟩, by first | omega | (dsimp only; omega), ⟨rfl, rfl, rfl, rfl, rfl, trivial⟩⟩
        · -- else
          refine AW.skip ?_
          refine nrm_blk (nrm_and ?_)
          refine AW.reg ?_
          have hcb : (combI p (befR o l i) (l.getD i [])).2 = true := by rw [hz75]; exact bnot_f c301
          refine AL.val rfl (.inl rfl) (HV.mv rfl) ?_
          refine AL.val rfl (.inl rfl) (HV.add rfl rfl (by omega)) ?_
          refine AL.val rfl (.inl rfl) (HV.as rfl) ?_
          refine AL.nil ?_
          refine nrm_and ?_
          exact ⟨(i + 1, vo_, vr_, S), ⟨X288, X289, X290, hb295, hb296, q285, by omega, hb297, by rw [show kpS p o l (i + 1) = kpS p o l i by simp only [kpS]; rw [if_pos hcb]]; exact (ho293.okk (fun b hb _ => hb.1)), by rw [show kpS p o l (i + 1) = kpS p o l i by simp only [kpS]; rw [if_pos hcb]]; exact (ho294.okk (fun b hb _ => hb.1)), trivial⟩, by first | omega | (dsimp only; omega), ⟨rfl, rfl, rfl, rfl, rfl, trivial⟩⟩
    · -- else
      refine AW.exit ?_
      refine ex_and (ex_and (ex_blk ?_))
      refine nrm_and ?_
      refine AW.rs ?_
      refine AL.val rfl (.inl rfl) (HV.fa fl31_2 rfl) ?_
      have X512 := Ext.refl H79
      have ho510 : OwnK kI 2 W H79 (fun b => (H56.bd ≤ b ∧ S b)) vo_ (tcO p o l) := by unfold tcO; rw [show o.length = i by omega]; exact hoO
      have ho511 : OwnD (kO 2 kI) 22 W H79 (fun b => (H56.bd ≤ b ∧ ¬ S b)) vr_ (partL l (kpS p o l o.length)) := by rw [show o.length = i by omega]; exact hoR
      have ho513 := ho510.okk (ok' := fun b => (H56.bd ≤ b ∧ S b) ∧ b < H79.bd) (fun b hb hlt => ⟨hb, hlt⟩)
      have ho514 := ho511.okk (ok' := fun b => (H56.bd ≤ b ∧ ¬ S b) ∧ b < H79.bd) (fun b hb hlt => ⟨hb, hlt⟩)
      have hkp := kpS_in (p := p) (o := o) (l := l) o.length
      have hkr := part_rect hF.r (fun q hq => by have := hkp.2 q hq; omega : ∀ q ∈ kpS p o l o.length, 0 ≤ q ∧ q < l.length)
      have hkn := partL_len l (kpS p o l o.length)
      have htr := turn_rect (show 0 < p by omega) hkr
      rw [hkn] at htr
      have y515 := hb83.lt
      have y516 := hb84.lt
      have y517 := hbB.lt
      have o518 := X80.bd
      have o519 := X81.bd
      have o520 := X82.bd
      have o521 := X512.bd
      have a522 := ho513.ltb
      have a523 := ho514.ltb
      refine AL.w rfl (.inl rfl) (WV.call fn91 rfl (turned_ok p k (rd_ofO ho514.rd) (at_cells hbB rfl) (K := k.toNat) hk0 hkr (by omega) (by omega))) ?_
      rintro _ H525 ⟨⟨u524, rfl, ho527⟩, hx526⟩
      have q528 := Nat.le_trans q85 hx526.bd
      have X529 := Ext.trans X80 hx526
      have X530 := Ext.trans X81 hx526
      have X531 := Ext.trans X82 hx526
      have X532 := Ext.trans X512 hx526
      have ho533 := ho513.ext hx526
      have ho534 := ho514.ext hx526
      have hb535 := hb83.ext hx526
      have hb536 := hb84.ext hx526
      have hb537 := hbB.ext hx526
      have X538 := Ext.refl H525
      have hr539 := rd_ofO ho527.rd
      have hr540 : RdK (kR kI) W H525 _ u524 (tcM p k o l) := hr539
      have htm : (tcM p k o l).length = k.toNat := turn_len _ _
      have htr2 : rect p (kpS p o l o.length).length (tcM p k o l) := htr
      have hbl : ((tcM p k o l).drop (1 : Int).toNat).length = k.toNat - 1 := by rw [List.length_drop, htm]; rfl
      have hbr : rect p (kpS p o l o.length).length ((tcM p k o l).drop (1 : Int).toNat) := rect_drop htr2
      obtain ⟨htK1, htK2⟩ := tcK_f hF.q htr2 (by omega)
      refine AL.w rfl (.inl rfl) (WV.al ze29 rfl) ?_
      rintro _ H542 ⟨b541, rfl, hx543, hn544, hb545⟩
      have o546 := Nat.le_trans X529.bd hn544
      have o547 := Nat.le_trans X530.bd hn544
      have o548 := Nat.le_trans X531.bd hn544
      have o549 := Nat.le_trans X532.bd hn544
      have o550 := Nat.le_trans X538.bd hn544
      have o551 := Nat.le_trans q528 hn544
      have ne552 : b3 ≠ b541 := by have := hb535.lt; omega
      have ne553 : b11 ≠ b541 := by have := hb536.lt; omega
      have ne554 : b40 ≠ b541 := by have := hb537.lt; omega
      have q555 := Nat.le_trans q528 hx543.bd
      have X556 := Ext.trans X529 hx543
      have X557 := Ext.trans X530 hx543
      have X558 := Ext.trans X531 hx543
      have X559 := Ext.trans X532 hx543
      have X560 := Ext.trans X538 hx543
      have ho561 := ho533.ext hx543
      have ho562 := ho534.ext hx543
      have hb563 := hb535.ext hx543
      have hb564 := hb536.ext hx543
      have hb565 := hb537.ext hx543
      have X566 := Ext.refl H542
      refine AL.w0 (.inl rfl) (WV.st rfl rfl va29 rfl hb545 (Nat.le_of_ble_eq_true rfl) (one_cons rfl (one_cons rfl (one_cons (sl_one1 (hr540.ext X560).isSl) one_nil)))) ?_
      rintro _ H567 ⟨hx568, hb569⟩
      have q570 := Nat.le_trans q555 hx568.bd
      have X571 := Ext.thru X556 hx568 (fun z_ hz_ => by rw [hz_]; exact o546)
      have X572 := Ext.thru X557 hx568 (fun z_ hz_ => by rw [hz_]; exact o547)
      have X573 := Ext.thru X558 hx568 (fun z_ hz_ => by rw [hz_]; exact o548)
      have X574 := Ext.thru X559 hx568 (fun z_ hz_ => by rw [hz_]; exact o549)
      have X575 := Ext.thru X560 hx568 (fun z_ hz_ => by rw [hz_]; exact o550)
      have q577 := Nat.le_trans X566.bd hx568.bd
      have ho578 := ho561.but hx568 (fun b hb _ e => by have hb' : (H56.bd ≤ b ∧ S b) ∧ b < H79.bd := hb; have e' : b = b541 := e; omega) (fun z_ hz_ => by rw [hz_]; exact hb545.w)
      have ho579 := ho562.but hx568 (fun b hb _ e => by have hb' : (H56.bd ≤ b ∧ ¬ S b) ∧ b < H79.bd := hb; have e' : b = b541 := e; omega) (fun z_ hz_ => by rw [hz_]; exact hb545.w)
      have hb580 := hb563.but hx568 ne552
      have hb581 := hb564.but hx568 ne553
      have hb582 := hb565.but hx568 ne554
      have hb583 : At W H567 b541 ⟨29, [.int .i64 p, .int .i64 ((partL l (kpS p o l o.length)).length : Int), u524], 3⟩ := hb569
      refine AL.nx ?_
      refine AW.rs ?_
      refine AL.val rfl (.inl rfl) (HV.fa fl29_0 rfl) ?_
      refine AL.val rfl (.inl rfl) (HV.ld rfl va2 (at_cell hb583 rfl)) ?_
      refine AL.val rfl (.inl rfl) (HV.fa fl29_1 rfl) ?_
      refine AL.val rfl (.inl rfl) (HV.ld rfl va2 (at_cell_add (j := 1) hb583 rfl)) ?_
      refine AL.val rfl (.inl rfl) (HV.bd rfl (bd29_0_1 p ((partL l (kpS p o l o.length)).length : Int))) ?_
      refine AL.w rfl (.inl rfl) (WV.al ze29 rfl) ?_
      rintro _ H585 ⟨b584, rfl, hx586, hn587, hb588⟩
      have o589 := Nat.le_trans X571.bd hn587
      have o590 := Nat.le_trans X572.bd hn587
      have o591 := Nat.le_trans X573.bd hn587
      have o592 := Nat.le_trans X574.bd hn587
      have o593 := Nat.le_trans X575.bd hn587
      have o594 := Nat.le_trans q570 hn587
      have o595 := Nat.le_trans q577 hn587
      have ne596 : b3 ≠ b584 := by have := hb580.lt; omega
      have ne597 : b11 ≠ b584 := by have := hb581.lt; omega
      have ne598 : b40 ≠ b584 := by have := hb582.lt; omega
      have ne599 : b541 ≠ b584 := by have := hb583.lt; omega
      have q600 := Nat.le_trans q570 hx586.bd
      have q601 := Nat.le_trans q577 hx586.bd
      have X602 := Ext.trans X571 hx586
      have X603 := Ext.trans X572 hx586
      have X604 := Ext.trans X573 hx586
      have X605 := Ext.trans X574 hx586
      have X606 := Ext.trans X575 hx586
      have ho607 := ho578.ext hx586
      have ho608 := ho579.ext hx586
      have hb609 := hb580.ext hx586
      have hb610 := hb581.ext hx586
      have hb611 := hb582.ext hx586
      have hb612 := hb583.ext hx586
      have X613 := Ext.refl H585
      refine AL.w0 (.inl rfl) (WV.st rfl rfl va29 rfl hb588 (Nat.le_of_ble_eq_true rfl) (one_cons rfl (one_cons rfl (one_cons (sl_one1 ⟨none, 0, rfl⟩) one_nil)))) ?_
      rintro _ H614 ⟨hx615, hb616⟩
      have q617 := Nat.le_trans q600 hx615.bd
      have q618 := Nat.le_trans q601 hx615.bd
      have X619 := Ext.thru X602 hx615 (fun z_ hz_ => by rw [hz_]; exact o589)
      have X620 := Ext.thru X603 hx615 (fun z_ hz_ => by rw [hz_]; exact o590)
      have X621 := Ext.thru X604 hx615 (fun z_ hz_ => by rw [hz_]; exact o591)
      have X622 := Ext.thru X605 hx615 (fun z_ hz_ => by rw [hz_]; exact o592)
      have X623 := Ext.thru X606 hx615 (fun z_ hz_ => by rw [hz_]; exact o593)
      have q625 := Nat.le_trans X613.bd hx615.bd
      have ho626 := ho607.but hx615 (fun b hb _ e => by have hb' : (H56.bd ≤ b ∧ S b) ∧ b < H79.bd := hb; have e' : b = b584 := e; omega) (fun z_ hz_ => by rw [hz_]; exact hb588.w)
      have ho627 := ho608.but hx615 (fun b hb _ e => by have hb' : (H56.bd ≤ b ∧ ¬ S b) ∧ b < H79.bd := hb; have e' : b = b584 := e; omega) (fun z_ hz_ => by rw [hz_]; exact hb588.w)
      have hb628 := hb609.but hx615 ne596
      have hb629 := hb610.but hx615 ne597
      have hb630 := hb611.but hx615 ne598
      have hb631 := hb612.but hx615 ne599
      have hb632 : At W H614 b584 ⟨29, [.int .i64 p, .int .i64 ((partL l (kpS p o l o.length)).length : Int), (.slice none 0 0)], 3⟩ := hb616
      refine AL.nx ?_
      refine AW.seq ?_
      refine AW.rs ?_
      refine AL.val rfl (.inl rfl) (HV.as rfl) ?_
      refine AL.nx ?_
      refine AW.block ?_
      have X633 := Ext.refl H614
      have y634 := hb628.lt
      have y635 := hb629.lt
      have y636 := hb630.lt
      have y637 := hb631.lt
      have y638 := hb632.lt
      have o639 := X619.bd
      have o640 := X620.bd
      have o641 := X621.bd
      have o642 := X622.bd
      have o643 := X623.bd
      have o644 := X633.bd
      have a645 := ho626.ltb
      have a646 := ho627.ltb
      have ho647 : OwnK (kR kI) 22 W H614 (fun b => b < H525.bd ∨ H614.bd ≤ b) (.slice none 0 0) ([] : List (List Int)) := OwnK.nil _
      have vb649 : ∀ b, some b = (Value.slice none 0 0).ownBlock → H614.bd ≤ b := fun b h => by cases h
      refine AW.loop (σ := Nat × Value) (fun ⟨j, vb_⟩ => [(2, .pointer (some ⟨b11, 0, none⟩)), (3, .int .i64 0), (4, .pointer (some ⟨b40, 0, none⟩)), (10, .pointer (some ⟨b541, 0, none⟩)), (11, .pointer (some ⟨b584, 0, none⟩)), (12, .int .i64 ((j : Int) + 1))]) (fun ⟨j, vb_⟩ H' => Ext H H' ∧ Ext H4 H' ∧ Ext H12 H' ∧ Ext H79 H' ∧ Ext H525 H' ∧ At W H' b3 ⟨31, [.int .i64 n, vo, .int .i64 p, .int .i64 k, v], 5⟩ ∧ At W H' b11 ⟨31, [.int .i64 0, (.slice none 0 0), .int .i64 0, .int .i64 0, (.slice none 0 0)], 5⟩ ∧ At W H' b40 ⟨31, [.int .i64 n, vo_, .int .i64 p, .int .i64 k, vr_], 5⟩ ∧ At W H' b541 ⟨29, [.int .i64 p, .int .i64 ((partL l (kpS p o l o.length)).length : Int), u524], 3⟩ ∧ H56.bd ≤ H'.bd ∧ H614.bd ≤ H'.bd ∧ j ≤ ((tcM p k o l).drop 1).length ∧ At W H' b584 ⟨29, [.int .i64 p, .int .i64 ((partL l (kpS p o l o.length)).length : Int), vb_], 3⟩ ∧ OwnK (kR kI) 22 W H' (fun b => b < H525.bd ∨ H614.bd ≤ b) vb_ (keptL p ((tcM p k o l).drop 1) j) ∧ (∀ b, some b = vb_.ownBlock → H614.bd ≤ b) ∧ OwnK kI 2 W H' (fun b => (H56.bd ≤ b ∧ S b) ∧ b < H79.bd) vo_ (tcO p o l) ∧ OwnD (kO 2 kI) 22 W H' (fun b => (H56.bd ≤ b ∧ ¬ S b) ∧ b < H79.bd) vr_ (partL l (kpS p o l o.length)) ∧ True) (fun ⟨j, vb_⟩ => ((tcM p k o l).drop 1).length - j) (0, (.slice none 0 0)) ⟨X619, X620, X621, X622, X623, hb628, hb629, hb630, hb631, q617, X633.bd, Nat.zero_le _, hb632, ho647, vb649, ho626, ho627, trivial⟩ ⟨rfl, rfl, rfl, rfl, rfl, rfl, trivial⟩ ?_
      rintro ⟨j, vb_⟩ H650 ⟨X651, X652, X653, X654, X655, hb656, hb657, hb658, hb659, q660, q661, hj, hbC, hoB, hvb, hoO, hoR, _⟩
      have hkl := kept_len p ((tcM p k o l).drop 1) j
      have hdl : ((tcM p k o l).drop 1).length = k.toNat - 1 := by rw [List.length_drop, htm]
      refine AW.seq ?_
      refine AW.rs ?_
      refine AL.val rfl (.inl rfl) (HV.mv rfl) ?_
      refine AL.val rfl (.inl rfl) (HV.fa fl29_2 rfl) ?_
      refine AL.val rfl (.inl rfl) (HV.ld rfl va23 (at_cell_add (j := 2) hb659 rfl)) ?_
      refine AL.val rfl (.inl rfl) (HV.len Try.underlying23 rfl hr540.isSl) ?_
      refine AL.val rfl (.inl rfl) (HV.lti rfl rfl) ?_
      refine AL.nx ?_
      refine AW.ifd rfl (fun c662 => ?_) (fun c662 => ?_)
      · -- then
        refine AW.skip ?_
        refine nrm_and ?_
        refine AW.seq ?_
        refine AW.block ?_
        refine AW.rs ?_
        refine AL.val rfl (.inl rfl) (HV.fa fl29_2 rfl) ?_
        refine AL.val rfl (.inl rfl) (HV.ld rfl va23 (at_cell_add (j := 2) hb659 rfl)) ?_
        refine AL.val rfl (.inl rfl) (HV.mv rfl) ?_
        obtain ⟨p663, z664, cs665, hz666, hK667, hC668, hP669⟩ := RdK.ix (q := ((j : Int) + 1)) hr540 sl23 (by omega) (by omega)
        obtain ⟨v670, rfl, hr671⟩ := hK667
        have hm672 := hr671.max
        refine AL.val rfl (.inl rfl) (hP669 rfl rfl) ?_
        refine AL.val rfl (.inl rfl) (HV.ld rfl va22 (cells_first (hC668.ext X655) rfl)) ?_
        have X673 := Ext.refl H650
        have y674 := hb656.lt
        have y675 := hb657.lt
        have y676 := hb658.lt
        have y677 := hb659.lt
        have y678 := hbC.lt
        have o679 := X651.bd
        have o680 := X652.bd
        have o681 := X653.bd
        have o682 := X654.bd
        have o683 := X655.bd
        have o684 := X673.bd
        have a685 := hoB.ltb
        have a686 := hoO.ltb
        have a687 := hoR.ltb
        refine AL.w rfl (.inl rfl) (WV.call fn80 rfl (specComb_ok p ((partL l (kpS p o l o.length)).length : Int) hoB.rd (at_cells hbC rfl) (hr671.ext X655) (K := (kpS p o l o.length).length) hF.q (by rw [hkn]) (kept_ok hF.q hbr j hj).1 (by omega) (by omega) (rect_at htr2 hz666).2 (rect_at htr2 hz666).1)) ?_
        rintro _ H689 ⟨⟨u688, rfl, hv691⟩, hx690⟩
        have q692 := Nat.le_trans q660 hx690.bd
        have q693 := Nat.le_trans q661 hx690.bd
        have X694 := Ext.trans X651 hx690
        have X695 := Ext.trans X652 hx690
        have X696 := Ext.trans X653 hx690
        have X697 := Ext.trans X654 hx690
        have X698 := Ext.trans X655 hx690
        have X699 := Ext.trans X673 hx690
        have ho700 := hoB.ext hx690
        have ho701 := hoO.ext hx690
        have ho702 := hoR.ext hx690
        have hb703 := hb656.ext hx690
        have hb704 := hb657.ext hx690
        have hb705 := hb658.ext hx690
        have hb706 := hb659.ext hx690
        have hb707 := hbC.ext hx690
        have X708 := Ext.refl H689
        have hr709 := hv691.rd
        refine AL.val rfl (.inl rfl) (HV.mv rfl) ?_
        refine AL.val rfl (.inl rfl) (HV.ex rfl rfl) ?_
        refine AL.val rfl (.inl rfl) (HV.ex rfl rfl) ?_
        refine AL.val rfl (.inl rfl) (HV.as rfl) ?_
        refine AL.val rfl (.inl rfl) (HV.as rfl) ?_
        refine AL.nx ?_
        refine AW.rs ?_
        refine AL.val rfl (.inl rfl) (HV.mv rfl) ?_
        refine AL.val rfl (.inl rfl) (HV.not rfl) ?_
        refine AL.nx ?_
        refine AW.cond rfl (fun c710 => ?_) (fun c710 => ?_)
        · -- then
          refine AW.draw' [0, 1, 0, 4, 0, 28, 60, 124, 255, 511, 1023] mixed (by rfl) ?_
          refine Dr.read 0 _ 130 _ rfl rfl rfl rfl rfl (RV.of (by intro _ _ h; cases h) (.inl rfl) (fun _ xd => HV.fa fl29_2 rfl)) ?_
          refine Dr.read 1 _ 131 _ rfl rfl rfl rfl rfl (RV.of (by intro _ _ h; cases h) (.inl rfl) (fun _ xd => HV.ld rfl va23 (rdc_ext xd (at_cell_add (j := 2) hb707 rfl)))) ?_
          refine Dr.read 2 _ 132 _ rfl rfl rfl rfl rfl (RV.of (by intro _ _ h; cases h) (.inl rfl) (fun _ xd => HV.fa fl29_2 rfl)) ?_
          refine Dr.read 3 _ 133 _ rfl rfl rfl rfl rfl (RV.of (by intro _ _ h; cases h) (.inl rfl) (fun _ xd => HV.ld rfl va23 (rdc_ext xd (at_cell_add (j := 2) hb706 rfl)))) ?_
          refine Dr.read 4 _ 134 _ rfl rfl rfl rfl rfl (RV.of (by intro _ _ h; cases h) (.inl rfl) (fun _ xd => HV.mv rfl)) ?_
          obtain ⟨p711, z712, cs713, hz714, hK715, hC716, hP717⟩ := RdK.ix (q := ((j : Int) + 1)) hr540 sl23 (by omega) (by omega)
          obtain ⟨v718, rfl, hr719⟩ := hK715
          have hm720 := hr719.max
          refine Dr.read 5 _ 135 _ rfl rfl rfl rfl rfl (RV.of (by intro _ _ h; cases h) (.inl rfl) (fun _ xd => hP717 rfl rfl)) ?_
          refine Dr.read 6 _ 136 _ rfl rfl rfl rfl rfl (RV.of (by intro _ _ h; cases h) (.inl rfl) (fun _ xd => HV.ld rfl va22 (rdc_ext xd (cells_first (hC716.ext X698) rfl)))) ?_
          have y727 := hb703.lt
          have y728 := hb704.lt
          have y729 := hb705.lt
          have y730 := hb706.lt
          have y731 := hb707.lt
          have o732 := X694.bd
          have o733 := X695.bd
          have o734 := X696.bd
          have o735 := X697.bd
          have o736 := X698.bd
          have o737 := X699.bd
          have o738 := X708.bd
          have a739 := ho700.ltb
          have a740 := ho701.ltb
          have a741 := ho702.ltb
          have hr721 := (hr719).okk (ok' := fun b => b < H525.bd) (fun b _ hlt => hlt)
          have hc722 : v718.cells = #[v718] := by obtain ⟨A, c, e⟩ := hr721.isSl; rw [e]; rfl
          refine Dr.eff 7 _ _ rfl (by intro d h; cases h; exact ⟨rfl, rfl⟩) rfl rfl rfl (EC.of (by intro _ _ h; cases h) (.inl rfl) (WV.bsR (okx := fun b => b < H525.bd) (K := (kR kI)) (l := ([z712] : List (List Int))) (css := [[v718]]) sl23 rfl rfl (by simp [Instr.fill, hc722, kR, rng1]) rfl (segs_cons ⟨_, rfl, hr721.ext X698⟩ segs_nil))) (fun v H' h => .inl (h.1)) ?_
          rintro v723 H724 ⟨hx725, ho726, ho726_v⟩
          have q742 := Nat.le_trans q692 hx725.bd
          have q743 := Nat.le_trans q693 hx725.bd
          have X744 := Ext.trans X694 hx725
          have X745 := Ext.trans X695 hx725
          have X746 := Ext.trans X696 hx725
          have X747 := Ext.trans X697 hx725
          have X748 := Ext.trans X698 hx725
          have X749 := Ext.trans X699 hx725
          have X750 := Ext.trans X708 hx725
          have ho751 := ho700.ext hx725
          have ho752 := ho701.ext hx725
          have ho753 := ho702.ext hx725
          have hb754 := hb703.ext hx725
          have hb755 := hb704.ext hx725
          have hb756 := hb705.ext hx725
          have hb757 := hb706.ext hx725
          have hb758 := hb707.ext hx725
          have X767 := Ext.refl H724
          have a766 : ∀ b, some b = vb_.ownBlock → b < H689.bd := a739
          have y768 : H614.bd ≤ H689.bd := q693
          have y769 : H614.bd ≤ H724.bd := q743
          refine Dr.eff 8 _ _ rfl (by intro d h; cases h; exact ⟨rfl, rfl⟩) rfl rfl rfl (EC.of (by intro _ _ h; cases h) (.inl rfl) (WV.apk sl23 rfl rfl ho751 ho726.rd (by simp only [List.length_singleton]; omega) (by simp only [List.length_singleton]; omega) (fun b hb _ e => by have h1 := hvb b e; have h2 := a766 b e; have h3 : b < H525.bd ∨ H689.bd ≤ b := hb; have h4 := o643; omega))) (fun v H' h => .inr (.inl rfl)) ?_
          rintro v759 H760 ⟨hx761, ho762, hb763⟩
          have ho764 := ho762.okk (ok' := fun b => b < H525.bd ∨ H614.bd ≤ b) (fun b hb _ => by have q : (b < H525.bd ∨ H614.bd ≤ b) ∨ (b < H525.bd ∨ H689.bd ≤ b) ∨ H724.bd ≤ b := hb; omega)
          have vb765 : ∀ b, some b = v759.ownBlock → H614.bd ≤ b := fun b h => (hb763 b h).elim (fun e => hvb b e) (fun e => by have e1 : H724.bd ≤ b := e; omega)
          have q770 := Nat.le_trans q742 hx761.bd
          have q771 := Nat.le_trans q743 hx761.bd
          have X772 := Ext.thru X744 hx761 (fun b hb => Nat.le_trans o639 (hvb b hb))
          have X773 := Ext.thru X745 hx761 (fun b hb => Nat.le_trans o640 (hvb b hb))
          have X774 := Ext.thru X746 hx761 (fun b hb => Nat.le_trans o641 (hvb b hb))
          have X775 := Ext.thru X747 hx761 (fun b hb => Nat.le_trans o642 (hvb b hb))
          have X776 := Ext.thru X748 hx761 (fun b hb => Nat.le_trans o643 (hvb b hb))
          have q778 := Nat.le_trans X749.bd hx761.bd
          have q780 := Nat.le_trans X750.bd hx761.bd
          have q782 := Nat.le_trans X767.bd hx761.bd
          have ho783 := ho752.but hx761 (fun b hb _ e => by have h1 : (H56.bd ≤ b ∧ S b) ∧ b < H79.bd := hb; have h2 := hvb b e; omega) (fun b hb => (ho751.blk b hb).2.2)
          have ho784 := ho753.but hx761 (fun b hb _ e => by have h1 : (H56.bd ≤ b ∧ ¬ S b) ∧ b < H79.bd := hb; have h2 := hvb b e; omega) (fun b hb => (ho751.blk b hb).2.2)
          have hb785 := hb754.but hx761 (fun e => by have q := hvb _ e; omega)
          have hb786 := hb755.but hx761 (fun e => by have q := hvb _ e; omega)
          have hb787 := hb756.but hx761 (fun e => by have q := hvb _ e; omega)
          have hb788 := hb757.but hx761 (fun e => by have q := hvb _ e; omega)
          have hb789 := hb758.but hx761 (fun e => by have q := hvb _ e; omega)
          refine Dr.read 9 _ 139 _ rfl rfl rfl rfl rfl (RV.of (by intro _ _ h; cases h) (.inl rfl) (fun _ xd => HV.fa fl29_2 rfl)) ?_
          refine Dr.eff 10 _ _ rfl (by intro d h; cases h) rfl rfl rfl (EC.of (by intro _ _ h; cases h) (.inl rfl) (WV.st rfl rfl va23 (sl_size ho764.rd.isSl) hb789 (Nat.le_of_ble_eq_true rfl) (sl_one ho764.rd.isSl))) (fun v H' h => .inr (.inl rfl)) ?_
          rintro _ H790 ⟨hx791, hb792⟩
          rw [sl_cells ho764.rd.isSl] at hb792
          have q793 := Nat.le_trans q770 hx791.bd
          have q794 := Nat.le_trans q771 hx791.bd
          have q795 := Nat.le_trans q778 hx791.bd
          have q796 := Nat.le_trans q780 hx791.bd
          have q797 := Nat.le_trans q782 hx791.bd
          have X798 := Ext.thru X772 hx791 (fun z_ hz_ => by rw [hz_]; exact o589)
          have X799 := Ext.thru X773 hx791 (fun z_ hz_ => by rw [hz_]; exact o590)
          have X800 := Ext.thru X774 hx791 (fun z_ hz_ => by rw [hz_]; exact o591)
          have X801 := Ext.thru X775 hx791 (fun z_ hz_ => by rw [hz_]; exact o592)
          have X802 := Ext.thru X776 hx791 (fun z_ hz_ => by rw [hz_]; exact o593)
          have ho803 := ho764.but hx791 (fun b hb _ e => by have hb' : b < H525.bd ∨ H614.bd ≤ b := hb; have e' : b = b584 := e; omega) (fun z_ hz_ => by rw [hz_]; exact hb789.w)
          have ho804 := ho783.but hx791 (fun b hb _ e => by have hb' : (H56.bd ≤ b ∧ S b) ∧ b < H79.bd := hb; have e' : b = b584 := e; omega) (fun z_ hz_ => by rw [hz_]; exact hb789.w)
          have ho805 := ho784.but hx791 (fun b hb _ e => by have hb' : (H56.bd ≤ b ∧ ¬ S b) ∧ b < H79.bd := hb; have e' : b = b584 := e; omega) (fun z_ hz_ => by rw [hz_]; exact hb789.w)
          have hb806 := hb785.but hx791 ne596
          have hb807 := hb786.but hx791 ne597
          have hb808 := hb787.but hx791 ne598
          have hb809 := hb788.but hx791 ne599
          have hb810 : At W H790 b584 ⟨29, [.int .i64 p, .int .i64 ((partL l (kpS p o l o.length)).length : Int), v759], 3⟩ := hb792
          refine Dr.fin rfl ?_
          refine nrm_blk (nrm_and ?_)
          refine AW.reg ?_
          refine AL.val rfl (.inl rfl) (HV.mv rfl) ?_
          refine AL.val rfl (.inl rfl) (HV.add rfl rfl (by omega)) ?_
          refine AL.val rfl (.inl rfl) (HV.as rfl) ?_
          refine AL.nil ?_
          refine nrm_and ?_
          exact ⟨(j + 1, v759), ⟨X798, X799, X800, X801, X802, hb806, hb807, hb808, hb809, q793, q794, by omega, hb810, by rw [show keptL p ((tcM p k o l).drop 1) (j + 1) = keptL p ((tcM p k o l).drop 1) j ++ [z712] by simp only [keptL]; rw [(show ((tcM p k o l).drop 1).getD j [] = z664 by rw [List.getD_eq_getElem?_getD, List.getElem?_drop, show 1 + j = ((j : Int) + 1).toNat by omega, hz666]; rfl), show z664 = z712 from (same_at hz666 hz714).symm, if_neg (by rw [show z712 = z664 from same_at hz666 hz714, bnot_t c710]; simp)]]; exact ho803, vb765, ho804, ho805, trivial⟩, by first | omega | (dsimp only; omega), ⟨rfl, rfl, rfl, rfl, rfl, rfl, trivial⟩⟩
        · -- else
          refine AW.skip ?_
          refine nrm_blk (nrm_and ?_)
          refine AW.reg ?_
          refine AL.val rfl (.inl rfl) (HV.mv rfl) ?_
          refine AL.val rfl (.inl rfl) (HV.add rfl rfl (by omega)) ?_
          refine AL.val rfl (.inl rfl) (HV.as rfl) ?_
          refine AL.nil ?_
          refine nrm_and ?_
          exact ⟨(j + 1, vb_), ⟨X694, X695, X696, X697, X698, hb703, hb704, hb705, hb706, q692, q693, by omega, hb707, by rw [show keptL p ((tcM p k o l).drop 1) (j + 1) = keptL p ((tcM p k o l).drop 1) j by simp only [keptL]; rw [(show ((tcM p k o l).drop 1).getD j [] = z664 by rw [List.getD_eq_getElem?_getD, List.getElem?_drop, show 1 + j = ((j : Int) + 1).toNat by omega, hz666]; rfl), if_pos (bnot_f c710)]]; exact ho700, hvb, ho701, ho702, trivial⟩, by first | omega | (dsimp only; omega), ⟨rfl, rfl, rfl, rfl, rfl, rfl, trivial⟩⟩
      · -- else
        refine AW.exit ?_
        refine ex_and (ex_and (ex_blk ?_))
        refine nrm_and ?_
        refine AW.seq ?_
        refine AW.draw' [0, 1, 3, 7, 15, 0, 32, 127, 255, 511] mixed (by rfl) ?_
        refine Dr.read 0 _ 140 _ rfl rfl rfl rfl rfl (RV.of (by intro _ _ h; cases h) (.inl rfl) (fun _ xd => HV.fa fl29_2 rfl)) ?_
        refine Dr.read 1 _ 141 _ rfl rfl rfl rfl rfl (RV.of (by intro _ _ h; cases h) (.inl rfl) (fun _ xd => HV.ld rfl va23 (rdc_ext xd (at_cell_add (j := 2) hb659 rfl)))) ?_
        obtain ⟨p811, z812, cs813, hz814, hK815, hC816, hP817⟩ := RdK.ix (q := 0) hr540 sl23 (by omega) (by omega)
        obtain ⟨v818, rfl, hr819⟩ := hK815
        have hm820 := hr819.max
        refine Dr.read 2 _ 142 _ rfl rfl rfl rfl rfl (RV.of (by intro _ _ h; cases h) (.inl rfl) (fun _ xd => hP817 rfl rfl)) ?_
        refine Dr.read 3 _ 143 _ rfl rfl rfl rfl rfl (RV.of (by intro _ _ h; cases h) (.inl rfl) (fun _ xd => HV.ld rfl va22 (rdc_ext xd (cells_first (hC816.ext X655) rfl)))) ?_
        refine Dr.read 5 _ 145 _ rfl rfl rfl rfl rfl (RV.of (by intro _ _ h; cases h) (.inl rfl) (fun _ xd => HV.fa fl29_2 rfl)) ?_
        refine Dr.read 6 _ 146 _ rfl rfl rfl rfl rfl (RV.of (by intro _ _ h; cases h) (.inl rfl) (fun _ xd => HV.ld rfl va23 (rdc_ext xd (at_cell_add (j := 2) hbC rfl)))) ?_
        have X821 := Ext.refl H650
        have ho822 := hoB.okk (ok' := fun b => (b < H525.bd ∨ H614.bd ≤ b) ∧ b < H650.bd) (fun b hb hlt => ⟨hb, hlt⟩)
        have y829 := hb656.lt
        have y830 := hb657.lt
        have y831 := hb658.lt
        have y832 := hb659.lt
        have y833 := hbC.lt
        have o834 := X651.bd
        have o835 := X652.bd
        have o836 := X653.bd
        have o837 := X654.bd
        have o838 := X655.bd
        have o839 := X821.bd
        have a840 := ho822.ltb
        have a841 := hoO.ltb
        have a842 := hoR.ltb
        have hr823 := (hr819).okk (ok' := fun b => b < H525.bd) (fun b _ hlt => hlt)
        have hc824 : v818.cells = #[v818] := by obtain ⟨A, c, e⟩ := hr823.isSl; rw [e]; rfl
        refine Dr.eff 4 _ _ rfl (by intro d h; cases h; exact ⟨rfl, rfl⟩) rfl rfl rfl (EC.of (by intro _ _ h; cases h) (.inl rfl) (WV.bsR (okx := fun b => b < H525.bd) (K := (kR kI)) (l := ([z812] : List (List Int))) (css := [[v818]]) sl23 rfl rfl (by simp [Instr.fill, hc824, kR, rng1]) rfl (segs_cons ⟨_, rfl, hr823.ext X655⟩ segs_nil))) (fun v H' h => .inl (h.1)) ?_
        rintro v825 H826 ⟨hx827, ho828, ho828_v⟩
        have q843 := Nat.le_trans q660 hx827.bd
        have q844 := Nat.le_trans q661 hx827.bd
        have X845 := Ext.trans X651 hx827
        have X846 := Ext.trans X652 hx827
        have X847 := Ext.trans X653 hx827
        have X848 := Ext.trans X654 hx827
        have X849 := Ext.trans X655 hx827
        have X850 := Ext.trans X821 hx827
        have ho851 := ho822.ext hx827
        have ho852 := hoO.ext hx827
        have ho853 := hoR.ext hx827
        have hb854 := hb656.ext hx827
        have hb855 := hb657.ext hx827
        have hb856 := hb658.ext hx827
        have hb857 := hb659.ext hx827
        have hb858 := hbC.ext hx827
        have X867 := Ext.refl H826
        have y868 : H614.bd ≤ H650.bd := q661
        have y869 : H650.bd ≤ H826.bd := X850.bd
        refine Dr.eff 7 _ _ rfl (by intro d h; cases h; exact ⟨rfl, rfl⟩) rfl rfl rfl (EC.of (by intro _ _ h; cases h) (.inl rfl) (WV.apk sl23 rfl rfl ho828 ho851.rd (by simp only [List.length_singleton]; omega) (by simp only [List.length_singleton]; omega) (fun b hb _ e => by have h1 := ho828_v b e; have h2 : (b < H525.bd ∨ H614.bd ≤ b) ∧ b < H650.bd := hb; omega))) (fun v H' h => .inr (.inl rfl)) ?_
        rintro v859 H860 ⟨hx861, ho862, hb863⟩
        have ho864 := ho862.okk (ok' := fun b => b < H525.bd ∨ H614.bd ≤ b) (fun b hb _ => by have q : (b < H525.bd ∨ H650.bd ≤ b) ∨ ((b < H525.bd ∨ H614.bd ≤ b) ∧ b < H650.bd) ∨ H826.bd ≤ b := hb; omega)
        have vb866 : ∀ b, some b = v859.ownBlock → H650.bd ≤ b := fun b h => (hb863 b h).elim (fun e => ho828_v b e) (fun e => by have e1 : H826.bd ≤ b := e; omega)
        have ho865 : OwnK (kR kI) 22 W H860 (fun b => b < H525.bd ∨ H614.bd ≤ b) v859 (tcK p k o l) := by unfold tcK; rw [show (tcM p k o l).getD 0 [] = z812 from gd hz814 rfl, show ((tcM p k o l).drop 1).length = j by omega]; exact ho864
        have q870 := Nat.le_trans q843 hx861.bd
        have q871 := Nat.le_trans q844 hx861.bd
        have X872 := Ext.thru X845 hx861 (fun b hb => Nat.le_trans o834 (ho828_v b hb))
        have X873 := Ext.thru X846 hx861 (fun b hb => Nat.le_trans o835 (ho828_v b hb))
        have X874 := Ext.thru X847 hx861 (fun b hb => Nat.le_trans o836 (ho828_v b hb))
        have X875 := Ext.thru X848 hx861 (fun b hb => Nat.le_trans o837 (ho828_v b hb))
        have X876 := Ext.thru X849 hx861 (fun b hb => Nat.le_trans o838 (ho828_v b hb))
        have X877 := Ext.thru X850 hx861 (fun b hb => Nat.le_trans o839 (ho828_v b hb))
        have q879 := Nat.le_trans X867.bd hx861.bd
        have ho880 := ho852.but hx861 (fun b hb _ e => by have h1 : (H56.bd ≤ b ∧ S b) ∧ b < H79.bd := hb; have h2 := ho828_v b e; omega) (fun b hb => (ho828.blk b hb).2.2)
        have ho881 := ho853.but hx861 (fun b hb _ e => by have h1 : (H56.bd ≤ b ∧ ¬ S b) ∧ b < H79.bd := hb; have h2 := ho828_v b e; omega) (fun b hb => (ho828.blk b hb).2.2)
        have hb882 := hb854.but hx861 (fun e => by have q := ho828_v _ e; omega)
        have hb883 := hb855.but hx861 (fun e => by have q := ho828_v _ e; omega)
        have hb884 := hb856.but hx861 (fun e => by have q := ho828_v _ e; omega)
        have hb885 := hb857.but hx861 (fun e => by have q := ho828_v _ e; omega)
        have hb886 := hb858.but hx861 (fun e => by have q := ho828_v _ e; omega)
        refine Dr.read 8 _ 148 _ rfl rfl rfl rfl rfl (RV.of (by intro _ _ h; cases h) (.inl rfl) (fun _ xd => HV.fa fl29_2 rfl)) ?_
        refine Dr.eff 9 _ _ rfl (by intro d h; cases h) rfl rfl rfl (EC.of (by intro _ _ h; cases h) (.inl rfl) (WV.st rfl rfl va23 (sl_size ho865.rd.isSl) hb886 (Nat.le_of_ble_eq_true rfl) (sl_one ho865.rd.isSl))) (fun v H' h => .inr (.inl rfl)) ?_
        rintro _ H887 ⟨hx888, hb889⟩
        rw [sl_cells ho865.rd.isSl] at hb889
        have q890 := Nat.le_trans q870 hx888.bd
        have q891 := Nat.le_trans q871 hx888.bd
        have q892 := Nat.le_trans q879 hx888.bd
        have X893 := Ext.thru X872 hx888 (fun z_ hz_ => by rw [hz_]; exact o589)
        have X894 := Ext.thru X873 hx888 (fun z_ hz_ => by rw [hz_]; exact o590)
        have X895 := Ext.thru X874 hx888 (fun z_ hz_ => by rw [hz_]; exact o591)
        have X896 := Ext.thru X875 hx888 (fun z_ hz_ => by rw [hz_]; exact o592)
        have X897 := Ext.thru X876 hx888 (fun z_ hz_ => by rw [hz_]; exact o593)
        have q899 := Nat.le_trans X877.bd hx888.bd
        have ho900 := ho880.but hx888 (fun b hb _ e => by have hb' : (H56.bd ≤ b ∧ S b) ∧ b < H79.bd := hb; have e' : b = b584 := e; omega) (fun z_ hz_ => by rw [hz_]; exact hb886.w)
        have ho901 := ho881.but hx888 (fun b hb _ e => by have hb' : (H56.bd ≤ b ∧ ¬ S b) ∧ b < H79.bd := hb; have e' : b = b584 := e; omega) (fun z_ hz_ => by rw [hz_]; exact hb886.w)
        have ho902 := ho865.but hx888 (fun b hb _ e => by have hb' : b < H525.bd ∨ H614.bd ≤ b := hb; have e' : b = b584 := e; omega) (fun z_ hz_ => by rw [hz_]; exact hb886.w)
        have hb903 := hb882.but hx888 ne596
        have hb904 := hb883.but hx888 ne597
        have hb905 := hb884.but hx888 ne598
        have hb906 := hb885.but hx888 ne599
        have hb907 : At W H887 b584 ⟨29, [.int .i64 p, .int .i64 ((partL l (kpS p o l o.length)).length : Int), v859], 3⟩ := hb889
        refine Dr.fin rfl ?_
        refine nrm_and ?_
        refine AW.rs ?_
        have X908 := Ext.refl H887
        have y909 := hb903.lt
        have y910 := hb904.lt
        have y911 := hb905.lt
        have y912 := hb906.lt
        have y913 := hb907.lt
        have o914 := X893.bd
        have o915 := X894.bd
        have o916 := X895.bd
        have o917 := X896.bd
        have o918 := X897.bd
        have o919 := X908.bd
        have a920 := ho900.ltb
        have a921 := ho901.ltb
        have a922 := ho902.ltb
        refine AL.w rfl (.inl rfl) (WV.call fn91 rfl (turned_ok p ((partL l (kpS p o l o.length)).length : Int) ho902.rd (at_cells hb907 rfl) (K := (kpS p o l o.length).length) (by rw [hkn]) htK1 (by omega) (by have h1 : (tcK p k o l).length ≤ (tcM p k o l).length := htK2; omega))) ?_
        rintro _ H924 ⟨⟨u923, rfl, ho926⟩, hx925⟩
        have q927 := Nat.le_trans q890 hx925.bd
        have q928 := Nat.le_trans q891 hx925.bd
        have q929 := Nat.le_trans q892 hx925.bd
        have q930 := Nat.le_trans q899 hx925.bd
        have X931 := Ext.trans X893 hx925
        have X932 := Ext.trans X894 hx925
        have X933 := Ext.trans X895 hx925
        have X934 := Ext.trans X896 hx925
        have X935 := Ext.trans X897 hx925
        have X936 := Ext.trans X908 hx925
        have ho937 := ho900.ext hx925
        have ho938 := ho901.ext hx925
        have ho939 := ho902.ext hx925
        have hb940 := hb903.ext hx925
        have hb941 := hb904.ext hx925
        have hb942 := hb905.ext hx925
        have hb943 := hb906.ext hx925
        have hb944 := hb907.ext hx925
        have X945 := Ext.refl H924
        refine AL.val rfl (.inl rfl) (HV.fa fl31_2 rfl) ?_
        refine AL.w0 (.inl rfl) (WV.st rfl rfl va29 rfl hb942 (Nat.le_of_ble_eq_true rfl) (one_cons rfl (one_cons rfl (one_cons (sl_one1 (rd_ofO ho926.rd).isSl) one_nil)))) ?_
        rintro _ H947 ⟨hx948, hb949⟩
        have q950 := Nat.le_trans q927 hx948.bd
        have q951 := Nat.le_trans q928 hx948.bd
        have q952 := Nat.le_trans q929 hx948.bd
        have q953 := Nat.le_trans q930 hx948.bd
        have X954 := Ext.thru X931 hx948 (fun z_ hz_ => by rw [hz_]; exact o45)
        have X955 := Ext.thru X932 hx948 (fun z_ hz_ => by rw [hz_]; exact o46)
        have X956 := Ext.thru X933 hx948 (fun z_ hz_ => by rw [hz_]; exact o47)
        have q958 := Nat.le_trans X934.bd hx948.bd
        have q960 := Nat.le_trans X935.bd hx948.bd
        have q962 := Nat.le_trans X936.bd hx948.bd
        have q964 := Nat.le_trans X945.bd hx948.bd
        have ho965 := ho937.but hx948 (fun b hb _ e => by have hb' : (H56.bd ≤ b ∧ S b) ∧ b < H79.bd := hb; have e' : b = b40 := e; omega) (fun z_ hz_ => by rw [hz_]; exact hb942.w)
        have ho966 := ho938.but hx948 (fun b hb _ e => by have hb' : (H56.bd ≤ b ∧ ¬ S b) ∧ b < H79.bd := hb; have e' : b = b40 := e; omega) (fun z_ hz_ => by rw [hz_]; exact hb942.w)
        have ho967 := ho926.but hx948 (fun b hb _ e => by have hb' : H887.bd ≤ b := hb; have e' : b = b40 := e; omega) (fun z_ hz_ => by rw [hz_]; exact hb942.w)
        have hb968 := hb940.but hx948 ne48
        have hb969 := hb941.but hx948 ne49
        have hb970 := hb943.but hx948 (fun e => ne554 e.symm)
        have hb971 := hb944.but hx948 (fun e => ne598 e.symm)
        have hb972 : At W H947 b40 ⟨31, [.int .i64 n, vo_, .int .i64 p, .int .i64 ((tcK p k o l).length : Int), u923], 5⟩ := hb949
        refine AL.nx ?_
        refine AW.rs ?_
        refine AL.val rfl (.inl rfl) (HV.lda (cs := [.int .i64 n, vo_, .int .i64 p, .int .i64 ((tcK p k o l).length : Int), u923]) rfl va31 (at_cells hb972 rfl)) ?_
        refine AL.w0 (.inl rfl) (WV.st rfl rfl va31 rfl hb969 (Nat.le_of_ble_eq_true rfl) (one_cons rfl (one_cons (sl_one1 ho965.rd.isSl) (one_cons rfl (one_cons rfl (one_cons (sl_one1 (rd_ofO ho967.rd).isSl) one_nil)))))) ?_
        rintro _ H973 ⟨hx974, hb975⟩
        have q976 := Nat.le_trans q950 hx974.bd
        have q977 := Nat.le_trans q951 hx974.bd
        have q978 := Nat.le_trans q952 hx974.bd
        have q979 := Nat.le_trans q953 hx974.bd
        have q980 := Nat.le_trans q958 hx974.bd
        have q981 := Nat.le_trans q960 hx974.bd
        have q982 := Nat.le_trans q962 hx974.bd
        have q983 := Nat.le_trans q964 hx974.bd
        have X984 := Ext.thru X954 hx974 (fun z_ hz_ => by rw [hz_]; exact o16)
        have X985 := Ext.thru X955 hx974 (fun z_ hz_ => by rw [hz_]; exact o17)
        have q987 := Nat.le_trans X956.bd hx974.bd
        have ho988 := ho965.but hx974 (fun b hb _ e => by have hb' : (H56.bd ≤ b ∧ S b) ∧ b < H79.bd := hb; have e' : b = b11 := e; omega) (fun z_ hz_ => by rw [hz_]; exact hb969.w)
        have ho989 := ho966.but hx974 (fun b hb _ e => by have hb' : (H56.bd ≤ b ∧ ¬ S b) ∧ b < H79.bd := hb; have e' : b = b11 := e; omega) (fun z_ hz_ => by rw [hz_]; exact hb969.w)
        have ho990 := ho967.but hx974 (fun b hb _ e => by have hb' : H887.bd ≤ b := hb; have e' : b = b11 := e; omega) (fun z_ hz_ => by rw [hz_]; exact hb969.w)
        have hb991 := hb968.but hx974 ne18
        have hb992 := hb972.but hx974 (fun e => ne49 e.symm)
        have hb993 := hb970.but hx974 (fun e => ne553 e.symm)
        have hb994 := hb971.but hx974 (fun e => ne597 e.symm)
        have hb995 : At W H973 b11 ⟨31, [.int .i64 n, vo_, .int .i64 p, .int .i64 ((tcK p k o l).length : Int), u923], 5⟩ := hb975
        refine AL.val rfl (.inl rfl) (HV.as rfl) ?_
        refine AL.nx ?_
        refine AW.ret ?_
        refine post_ct rfl rfl rfl va31 hb995 ?_ (.inr rfl)
        have hC := trC_0 hok; exact ⟨⟨_, _, H79.bd, by rw [zI_yes hC, zI_yes hC, zI_yes hC, hC] <;> rfl, by rw [zL_yes hC]; exact ho988.okk (fun b hb _ => ⟨Nat.le_trans o71 hb.1.1, hb.2⟩), by rw [zL_yes hC]; exact ho990.okk (fun b hb _ => by have h1 : H887.bd ≤ b := hb; have h2 := o914; exact ⟨by omega, by omega⟩)⟩, X984⟩
end Go.Proofs.Yticobjbjejpomaa.VC
