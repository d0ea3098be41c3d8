/- Walks. -/
import Derived.Test.YticobjbjejpomaaZF26
set_option linter.unusedVariables false
set_option linter.unusedSimpArgs false
namespace Go.Proofs.Yticobjbjejpomaa.VC
open Go Go.RowKit
variable {W : World} {H : Hp}

set_option maxRecDepth 100000 in
theorem specSF_ok {v : Value} {l : List (List Int)} {ok : Nat → Prop} (p n : Int) (hr : RdK (kR kI) W H ok v l) (hl : (l.length ≤ 1048576 ∧ ∀ x ∈ l, x.length ≤ 1048576)) (hW : W.heap.size ≤ H.bd) : ACalls Try.prog W 43 #[.int .i64 p, .agg #[.int .i64 n, v]] H (fun r H' => (∃ (u v : Value) (la : Nat → Nat), r = .tuple #[.agg #[.int .i64 (zI (sfC n p l) n), u, .int .i64 (zI (sfC n p l) p), .int .i64 (zI (sfC n p l) (gsK p 3 (famG l) : Int)), v], .int .i64 (sfC n p l)] ∧ OwnK kI 2 W H' (fun b => H.bd ≤ b ∧ la b = 0) u (zL (sfC n p l) (gsO p 3 (famG l))) ∧ OwnD (kO 2 kI) 22 W H' (fun b => H.bd ≤ b ∧ la b = 1) v (zL (sfC n p l) (gsL p 3 (famG l)))) ∧ Ext H H') := by
  refine ACalls.of (args := [.int .i64 p, .agg #[.int .i64 n, v]]) Try.func43 rfl rfl ?_
  have X0 := Ext.refl H
  have hm1 := hr.max
  refine AW.rs ?_
  refine AL.w rfl (.inl rfl) (WV.bx rfl rfl) ?_
  rintro _ H3 ⟨b2, rfl, hx4, hn5, hb6⟩
  have o7 := Nat.le_trans X0.bd hn5
  have X8 := Ext.trans X0 hx4
  have X9 := Ext.refl H3
  refine AL.w rfl (.inl rfl) (WV.al ze31 rfl) ?_
  rintro _ H11 ⟨b10, rfl, hx12, hn13, hb14⟩
  have o15 := Nat.le_trans X8.bd hn13
  have o16 := Nat.le_trans X9.bd hn13
  have ne17 : b2 ≠ b10 := by have := hb6.lt; omega
  have X18 := Ext.trans X8 hx12
  have X19 := Ext.trans X9 hx12
  have hb20 := hb6.ext hx12
  have X21 := Ext.refl H11
  refine AL.val rfl (.inl rfl) (HV.as rfl) ?_
  refine AL.nx ?_
  refine AW.seq ?_
  refine AW.rs ?_
  refine AL.val rfl (.inl rfl) (HV.mv rfl) ?_
  refine AL.w rfl (.inl rfl) (WV.call fn99 rfl (specPrime_ok (W := W) p)) ?_
  rintro _ H22 ⟨rfl, hx23⟩
  have X24 := Ext.trans X18 hx23
  have X25 := Ext.trans X19 hx23
  have X26 := Ext.trans X21 hx23
  have hb27 := hb20.ext hx23
  have hb28 := hb14.ext hx23
  refine AL.val rfl (.inl rfl) (HV.not rfl) ?_
  refine AL.nx ?_
  refine AW.ifn rfl (fun c29 => ?_) (fun c29 => ?_)
  · -- then
    refine AW.rs ?_
    refine AL.val rfl (.inl rfl) (HV.bd rfl (bd31_ )) ?_
    refine AL.w0 (.inl rfl) (WV.st rfl rfl va31 rfl hb28 (Nat.le_of_ble_eq_true rfl) (one_cons rfl (one_cons (sl_one1 ⟨none, 0, rfl⟩) (one_cons rfl (one_cons rfl (one_cons (sl_one1 ⟨none, 0, rfl⟩) one_nil)))))) ?_
    rintro _ H30 ⟨hx31, hb32⟩
    have X33 := Ext.thru X24 hx31 (fun z_ hz_ => by rw [hz_]; exact o15)
    have X34 := Ext.thru X25 hx31 (fun z_ hz_ => by rw [hz_]; exact o16)
    have q36 := Nat.le_trans X26.bd hx31.bd
    have hb37 := hb27.but hx31 ne17
    have hb38 : At W H30 b10 ⟨31, [.int .i64 0, (.slice none 0 0), .int .i64 0, .int .i64 0, (.slice none 0 0)], 5⟩ := hb32
    refine AL.val rfl (.inl rfl) (HV.as rfl) ?_
    refine AL.nx ?_
    refine AW.ret ?_
    refine ret_and ?_
    refine post_ct rfl rfl rfl va31 hb38 ?_ (.inr rfl)
    have hC : (sfC n p l) = 2 := sf_2 (by assumption); have hC0 : (sfC n p l) ≠ 0 := (by omega); exact ⟨⟨.slice none 0 0, .slice none 0 0, fun _ => 0, by rw [zI_no hC0, zI_no hC0, zI_no hC0, hC] <;> rfl, by rw [zL_no hC0]; exact OwnK.nil _, by rw [zL_no hC0]; exact OwnD.nil _⟩, X33⟩
  · -- else
    refine AW.skip ?_
    refine nrm_and ?_
    refine AW.rs ?_
    have hpr : primeI p := (by assumption)
    refine AL.val rfl (.inl rfl) (HV.lda (cs := [.int .i64 n, v]) rfl va70 (at_cells hb27 rfl)) ?_
    have X39 := Ext.refl H22
    refine AL.w rfl (.inl rfl) (WV.call fn112 rfl (specGF_ok n (hr.ext X24) hl)) ?_
    rintro _ H44 ⟨⟨a40, l41, u42, m43, rfl, isl46, hk47⟩, hx45⟩
    have X48 := Ext.trans X24 hx45
    have X49 := Ext.trans X25 hx45
    have X50 := Ext.trans X26 hx45
    have X51 := Ext.trans X39 hx45
    have hb52 := hb27.ext hx45
    have hb53 := hb28.ext hx45
    have X54 := Ext.refl H44
    refine AL.val rfl (.inl rfl) (HV.mv rfl) ?_
    refine AL.val rfl (.inl rfl) (HV.ex rfl rfl) ?_
    refine AL.val rfl (.inl rfl) (HV.ex rfl rfl) ?_
    refine AL.w rfl (.inl rfl) (WV.al ze61 rfl) ?_
    rintro _ H56 ⟨b55, rfl, hx57, hn58, hb59⟩
    have o60 := Nat.le_trans X48.bd hn58
    have o61 := Nat.le_trans X49.bd hn58
    have o62 := Nat.le_trans X50.bd hn58
    have o63 := Nat.le_trans X51.bd hn58
    have o64 := Nat.le_trans X54.bd hn58
    have ne65 : b2 ≠ b55 := by have := hb52.lt; omega
    have ne66 : b10 ≠ b55 := by have := hb53.lt; omega
    have X67 := Ext.trans X48 hx57
    have X68 := Ext.trans X49 hx57
    have X69 := Ext.trans X50 hx57
    have X70 := Ext.trans X51 hx57
    have X71 := Ext.trans X54 hx57
    have hb72 := hb52.ext hx57
    have hb73 := hb53.ext hx57
    have X74 := Ext.refl H56
    refine AL.w0 (.inl rfl) (WV.st rfl rfl va61 rfl hb59 (Nat.le_of_ble_eq_true rfl) (one_cons rfl (one_cons rfl (one_cons (sl_one1 (isl46.ext X71).isSl) one_nil)))) ?_
    rintro _ H75 ⟨hx76, hb77⟩
    have X78 := Ext.thru X67 hx76 (fun z_ hz_ => by rw [hz_]; exact o60)
    have X79 := Ext.thru X68 hx76 (fun z_ hz_ => by rw [hz_]; exact o61)
    have X80 := Ext.thru X69 hx76 (fun z_ hz_ => by rw [hz_]; exact o62)
    have X81 := Ext.thru X70 hx76 (fun z_ hz_ => by rw [hz_]; exact o63)
    have X82 := Ext.thru X71 hx76 (fun z_ hz_ => by rw [hz_]; exact o64)
    have q84 := Nat.le_trans X74.bd hx76.bd
    have hb85 := hb72.but hx76 ne65
    have hb86 := hb73.but hx76 ne66
    have hb87 : At W H75 b55 ⟨61, [.int .i64 a40, .int .i64 l41, u42], 3⟩ := hb77
    refine AL.val rfl (.inl rfl) (HV.as rfl) ?_
    refine AL.nx ?_
    refine AW.seq ?_
    refine AW.rs ?_
    refine AL.val rfl (.inl rfl) (HV.mv rfl) ?_
    refine AL.val rfl (.inl rfl) (HV.nei rfl rfl) ?_
    refine AL.nx ?_
    refine AW.ifd rfl (fun c88 => ?_) (fun c88 => ?_)
    · -- then
      refine AW.rs ?_
      refine AL.val rfl (.inl rfl) (HV.bd rfl (bd31_ )) ?_
      refine AL.val rfl (.inl rfl) (HV.mv rfl) ?_
      refine AL.w0 (.inl rfl) (WV.st rfl rfl va31 rfl hb86 (Nat.le_of_ble_eq_true rfl) (one_cons rfl (one_cons (sl_one1 ⟨none, 0, rfl⟩) (one_cons rfl (one_cons rfl (one_cons (sl_one1 ⟨none, 0, rfl⟩) one_nil)))))) ?_
      rintro _ H89 ⟨hx90, hb91⟩
      have q92 := Nat.le_trans q84 hx90.bd
      have X93 := Ext.thru X78 hx90 (fun z_ hz_ => by rw [hz_]; exact o15)
      have X94 := Ext.thru X79 hx90 (fun z_ hz_ => by rw [hz_]; exact o16)
      have q96 := Nat.le_trans X80.bd hx90.bd
      have q98 := Nat.le_trans X81.bd hx90.bd
      have q100 := Nat.le_trans X82.bd hx90.bd
      have hb101 := hb85.but hx90 ne17
      have hb102 := hb87.but hx90 (fun e => ne66 e.symm)
      have hb103 : At W H89 b10 ⟨31, [.int .i64 0, (.slice none 0 0), .int .i64 0, .int .i64 0, (.slice none 0 0)], 5⟩ := hb91
      refine AL.val rfl (.inl rfl) (HV.as rfl) ?_
      refine AL.nx ?_
      refine AW.ret ?_
      refine ret_and ?_
      refine post_ct rfl rfl rfl va31 hb103 ?_ (.inr rfl)
      have hC : (sfC n p l) = gfC n l := sf_g hpr (by omega); have hC0 : (sfC n p l) ≠ 0 := (by omega); exact ⟨⟨.slice none 0 0, .slice none 0 0, fun _ => 0, by rw [← hC, zI_no hC0, zI_no hC0, zI_no hC0, hC] <;> rfl, by rw [zL_no hC0]; exact OwnK.nil _, by rw [zL_no hC0]; exact OwnD.nil _⟩, X93⟩
    · -- else
      refine AW.skip ?_
      refine nrm_and ?_
      refine AW.rs ?_
      refine AL.val rfl (.inl rfl) (HV.mv rfl) ?_
      have hg0 : gfC n l = 0 := (by omega)
      refine AL.val rfl (.inl rfl) (HV.fa fl70_0 rfl) ?_
      refine AL.val rfl (.inl rfl) (HV.ld rfl va2 (at_cell hb85 rfl)) ?_
      have X104 := Ext.refl H75
      have y105 := hb85.lt
      have y106 := hb86.lt
      have y107 := hb87.lt
      have o108 := X78.bd
      have o109 := X79.bd
      have o110 := X80.bd
      have o111 := X81.bd
      have o112 := X82.bd
      have o113 := X104.bd
      refine AL.w rfl (.inl rfl) (WV.call fn101 rfl (l04Gate_ok (d := 3) (Kd.ext (kG 3) (hk47 hg0) X82) (at_cells hb87 rfl) (p := p) (n := n) (Nat.le_trans hW X78.bd) (gf_ok hg0) hpr.1)) ?_
      rintro _ H117 ⟨⟨u114, v115, la116, rfl, ho119, ho120⟩, hx118⟩
      have q123 := Nat.le_trans q84 hx118.bd
      have X124 := Ext.trans X78 hx118
      have X125 := Ext.trans X79 hx118
      have X126 := Ext.trans X80 hx118
      have X127 := Ext.trans X81 hx118
      have X128 := Ext.trans X82 hx118
      have X129 := Ext.trans X104 hx118
      have hb130 := hb85.ext hx118
      have hb131 := hb86.ext hx118
      have hb132 := hb87.ext hx118
      have X133 := Ext.refl H117
      have hr121 := ho119.okk (ok' := fun b => (H75.bd ≤ b ∧ la116 b = 0) ∧ b < H117.bd) (fun b hb hlt => ⟨hb, hlt⟩)
      have hr122 := ho120.okk (ok' := fun b => (H75.bd ≤ b ∧ la116 b = 1) ∧ b < H117.bd) (fun b hb hlt => ⟨hb, hlt⟩)
      refine AL.val rfl (.inl rfl) (HV.ex rfl rfl) ?_
      refine AL.val rfl (.inl rfl) (HV.ex rfl rfl) ?_
      refine AL.w0 (.inl rfl) (WV.st rfl rfl va31 rfl hb131 (Nat.le_of_ble_eq_true rfl) (one_cons rfl (one_cons (sl_one1 hr121.rd.isSl) (one_cons rfl (one_cons rfl (one_cons (sl_one1 (rd_ofO hr122.rd).isSl) one_nil)))))) ?_
      rintro _ H136 ⟨hx137, hb138⟩
      have q139 := Nat.le_trans q123 hx137.bd
      have X140 := Ext.thru X124 hx137 (fun z_ hz_ => by rw [hz_]; exact o15)
      have X141 := Ext.thru X125 hx137 (fun z_ hz_ => by rw [hz_]; exact o16)
      have q143 := Nat.le_trans X126.bd hx137.bd
      have q145 := Nat.le_trans X127.bd hx137.bd
      have q147 := Nat.le_trans X128.bd hx137.bd
      have q149 := Nat.le_trans X129.bd hx137.bd
      have q151 := Nat.le_trans X133.bd hx137.bd
      have ho152 := hr121.but hx137 (fun b hb _ e => by have hb' : (H75.bd ≤ b ∧ la116 b = 0) ∧ b < H117.bd := hb; have e' : b = b10 := e; omega) (fun z_ hz_ => by rw [hz_]; exact hb131.w)
      have ho153 := hr122.but hx137 (fun b hb _ e => by have hb' : (H75.bd ≤ b ∧ la116 b = 1) ∧ b < H117.bd := hb; have e' : b = b10 := e; omega) (fun z_ hz_ => by rw [hz_]; exact hb131.w)
      have hb154 := hb130.but hx137 ne17
      have hb155 := hb132.but hx137 (fun e => ne66 e.symm)
      have hb156 : At W H136 b10 ⟨31, [.int .i64 (zI (lgC n p 3 (famG l)) n), u114, .int .i64 (zI (lgC n p 3 (famG l)) p), .int .i64 (zI (lgC n p 3 (famG l)) (gsK p 3 (famG l) : Int)), v115], 5⟩ := hb138
      refine AL.val rfl (.inl rfl) (HV.as rfl) ?_
      refine AL.nx ?_
      refine AW.ret ?_
      refine post_ct rfl rfl rfl va31 hb156 ?_ (.inr rfl)
      have hC := sf_l hpr hg0; rw [hC]; exact ⟨⟨_, _, la116, rfl, ho152.okk (fun b hb _ => ⟨Nat.le_trans o108 hb.1.1, hb.1.2⟩), ho153.okk (fun b hb _ => ⟨Nat.le_trans o108 hb.1.1, hb.1.2⟩)⟩, X140⟩

set_option maxRecDepth 100000 in
theorem implSF_ok {v : Value} {l : List (List Int)} {ok : Nat → Prop} (p n : Int) (hr : RdK (kR kI) W H ok v l) (hl : (l.length ≤ 1048576 ∧ ∀ x ∈ l, x.length ≤ 1048576)) (hW : W.heap.size ≤ H.bd) : ACalls Try.prog W 45 #[.int .i64 p, .agg #[.int .i64 n, v]] H (fun r H' => (∃ (u v : Value) (la : Nat → Nat), r = .tuple #[.agg #[.int .i64 (zI (sfC n p l) n), u, .int .i64 (zI (sfC n p l) p), .int .i64 (zI (sfC n p l) (gsK p 3 (famG l) : Int)), v], .int .i64 (sfC n p l)] ∧ OwnK kI 2 W H' (fun b => H.bd ≤ b ∧ la b = 0) u (zL (sfC n p l) (gsO p 3 (famG l))) ∧ OwnD (kO 2 kI) 22 W H' (fun b => H.bd ≤ b ∧ la b = 1) v (zL (sfC n p l) (gsL p 3 (famG l)))) ∧ Ext H H') := by
  refine ACalls.of (args := [.int .i64 p, .agg #[.int .i64 n, v]]) Try.func45 rfl rfl ?_
  have X0 := Ext.refl H
  have hm1 := hr.max
  refine AW.rs ?_
  refine AL.w rfl (.inl rfl) (WV.bx rfl rfl) ?_
  rintro _ H3 ⟨b2, rfl, hx4, hn5, hb6⟩
  have o7 := Nat.le_trans X0.bd hn5
  have X8 := Ext.trans X0 hx4
  have X9 := Ext.refl H3
  refine AL.w rfl (.inl rfl) (WV.al ze31 rfl) ?_
  rintro _ H11 ⟨b10, rfl, hx12, hn13, hb14⟩
  have o15 := Nat.le_trans X8.bd hn13
  have o16 := Nat.le_trans X9.bd hn13
  have ne17 : b2 ≠ b10 := by have := hb6.lt; omega
  have X18 := Ext.trans X8 hx12
  have X19 := Ext.trans X9 hx12
  have hb20 := hb6.ext hx12
  have X21 := Ext.refl H11
  refine AL.val rfl (.inl rfl) (HV.as rfl) ?_
  refine AL.nx ?_
  refine AW.seq ?_
  refine AW.rs ?_
  refine AL.val rfl (.inl rfl) (HV.mv rfl) ?_
  refine AL.w rfl (.inl rfl) (WV.call fn103 rfl (isPrime_ok (W := W) p)) ?_
  rintro _ H22 ⟨rfl, hx23⟩
  have X24 := Ext.trans X18 hx23
  have X25 := Ext.trans X19 hx23
  have X26 := Ext.trans X21 hx23
  have hb27 := hb20.ext hx23
  have hb28 := hb14.ext hx23
  refine AL.val rfl (.inl rfl) (HV.not rfl) ?_
  refine AL.nx ?_
  refine AW.ifn rfl (fun c29 => ?_) (fun c29 => ?_)
  · -- then
    refine AW.rs ?_
    refine AL.val rfl (.inl rfl) (HV.bd rfl (bd31_ )) ?_
    refine AL.w0 (.inl rfl) (WV.st rfl rfl va31 rfl hb28 (Nat.le_of_ble_eq_true rfl) (one_cons rfl (one_cons (sl_one1 ⟨none, 0, rfl⟩) (one_cons rfl (one_cons rfl (one_cons (sl_one1 ⟨none, 0, rfl⟩) one_nil)))))) ?_
    rintro _ H30 ⟨hx31, hb32⟩
    have X33 := Ext.thru X24 hx31 (fun z_ hz_ => by rw [hz_]; exact o15)
    have X34 := Ext.thru X25 hx31 (fun z_ hz_ => by rw [hz_]; exact o16)
    have q36 := Nat.le_trans X26.bd hx31.bd
    have hb37 := hb27.but hx31 ne17
    have hb38 : At W H30 b10 ⟨31, [.int .i64 0, (.slice none 0 0), .int .i64 0, .int .i64 0, (.slice none 0 0)], 5⟩ := hb32
    refine AL.val rfl (.inl rfl) (HV.as rfl) ?_
    refine AL.nx ?_
    refine AW.ret ?_
    refine ret_and ?_
    refine post_ct rfl rfl rfl va31 hb38 ?_ (.inr rfl)
    have hC : (sfC n p l) = 2 := sf_2 (by assumption); have hC0 : (sfC n p l) ≠ 0 := (by omega); exact ⟨⟨.slice none 0 0, .slice none 0 0, fun _ => 0, by rw [zI_no hC0, zI_no hC0, zI_no hC0, hC] <;> rfl, by rw [zL_no hC0]; exact OwnK.nil _, by rw [zL_no hC0]; exact OwnD.nil _⟩, X33⟩
  · -- else
    refine AW.skip ?_
    refine nrm_and ?_
    refine AW.rs ?_
    have hpr : primeI p := (by assumption)
    refine AL.val rfl (.inl rfl) (HV.lda (cs := [.int .i64 n, v]) rfl va70 (at_cells hb27 rfl)) ?_
    have X39 := Ext.refl H22
    refine AL.w rfl (.inl rfl) (WV.call fn114 rfl (implGF_ok n (hr.ext X24) hl)) ?_
    rintro _ H44 ⟨⟨a40, l41, u42, m43, rfl, isl46, hk47⟩, hx45⟩
    have X48 := Ext.trans X24 hx45
    have X49 := Ext.trans X25 hx45
    have X50 := Ext.trans X26 hx45
    have X51 := Ext.trans X39 hx45
    have hb52 := hb27.ext hx45
    have hb53 := hb28.ext hx45
    have X54 := Ext.refl H44
    refine AL.val rfl (.inl rfl) (HV.mv rfl) ?_
    refine AL.val rfl (.inl rfl) (HV.ex rfl rfl) ?_
    refine AL.val rfl (.inl rfl) (HV.ex rfl rfl) ?_
    refine AL.w rfl (.inl rfl) (WV.al ze61 rfl) ?_
    rintro _ H56 ⟨b55, rfl, hx57, hn58, hb59⟩
    have o60 := Nat.le_trans X48.bd hn58
    have o61 := Nat.le_trans X49.bd hn58
    have o62 := Nat.le_trans X50.bd hn58
    have o63 := Nat.le_trans X51.bd hn58
    have o64 := Nat.le_trans X54.bd hn58
    have ne65 : b2 ≠ b55 := by have := hb52.lt; omega
    have ne66 : b10 ≠ b55 := by have := hb53.lt; omega
    have X67 := Ext.trans X48 hx57
    have X68 := Ext.trans X49 hx57
    have X69 := Ext.trans X50 hx57
    have X70 := Ext.trans X51 hx57
    have X71 := Ext.trans X54 hx57
    have hb72 := hb52.ext hx57
    have hb73 := hb53.ext hx57
    have X74 := Ext.refl H56
    refine AL.w0 (.inl rfl) (WV.st rfl rfl va61 rfl hb59 (Nat.le_of_ble_eq_true rfl) (one_cons rfl (one_cons rfl (one_cons (sl_one1 (isl46.ext X71).isSl) one_nil)))) ?_
    rintro _ H75 ⟨hx76, hb77⟩
    have X78 := Ext.thru X67 hx76 (fun z_ hz_ => by rw [hz_]; exact o60)
    have X79 := Ext.thru X68 hx76 (fun z_ hz_ => by rw [hz_]; exact o61)
    have X80 := Ext.thru X69 hx76 (fun z_ hz_ => by rw [hz_]; exact o62)
    have X81 := Ext.thru X70 hx76 (fun z_ hz_ => by rw [hz_]; exact o63)
    have X82 := Ext.thru X71 hx76 (fun z_ hz_ => by rw [hz_]; exact o64)
    have q84 := Nat.le_trans X74.bd hx76.bd
    have hb85 := hb72.but hx76 ne65
    have hb86 := hb73.but hx76 ne66
    have hb87 : At W H75 b55 ⟨61, [.int .i64 a40, .int .i64 l41, u42], 3⟩ := hb77
    refine AL.val rfl (.inl rfl) (HV.as rfl) ?_
    refine AL.nx ?_
    refine AW.seq ?_
    refine AW.rs ?_
    refine AL.val rfl (.inl rfl) (HV.mv rfl) ?_
    refine AL.val rfl (.inl rfl) (HV.nei rfl rfl) ?_
    refine AL.nx ?_
    refine AW.ifd rfl (fun c88 => ?_) (fun c88 => ?_)
    · -- then
      refine AW.rs ?_
      refine AL.val rfl (.inl rfl) (HV.bd rfl (bd31_ )) ?_
      refine AL.val rfl (.inl rfl) (HV.mv rfl) ?_
      refine AL.w0 (.inl rfl) (WV.st rfl rfl va31 rfl hb86 (Nat.le_of_ble_eq_true rfl) (one_cons rfl (one_cons (sl_one1 ⟨none, 0, rfl⟩) (one_cons rfl (one_cons rfl (one_cons (sl_one1 ⟨none, 0, rfl⟩) one_nil)))))) ?_
      rintro _ H89 ⟨hx90, hb91⟩
      have q92 := Nat.le_trans q84 hx90.bd
      have X93 := Ext.thru X78 hx90 (fun z_ hz_ => by rw [hz_]; exact o15)
      have X94 := Ext.thru X79 hx90 (fun z_ hz_ => by rw [hz_]; exact o16)
      have q96 := Nat.le_trans X80.bd hx90.bd
      have q98 := Nat.le_trans X81.bd hx90.bd
      have q100 := Nat.le_trans X82.bd hx90.bd
      have hb101 := hb85.but hx90 ne17
      have hb102 := hb87.but hx90 (fun e => ne66 e.symm)
      have hb103 : At W H89 b10 ⟨31, [.int .i64 0, (.slice none 0 0), .int .i64 0, .int .i64 0, (.slice none 0 0)], 5⟩ := hb91
      refine AL.val rfl (.inl rfl) (HV.as rfl) ?_
      refine AL.nx ?_
      refine AW.ret ?_
      refine ret_and ?_
      refine post_ct rfl rfl rfl va31 hb103 ?_ (.inr rfl)
      have hC : (sfC n p l) = gfC n l := sf_g hpr (by omega); have hC0 : (sfC n p l) ≠ 0 := (by omega); exact ⟨⟨.slice none 0 0, .slice none 0 0, fun _ => 0, by rw [← hC, zI_no hC0, zI_no hC0, zI_no hC0, hC] <;> rfl, by rw [zL_no hC0]; exact OwnK.nil _, by rw [zL_no hC0]; exact OwnD.nil _⟩, X93⟩
    · -- else
      refine AW.skip ?_
      refine nrm_and ?_
      refine AW.rs ?_
      refine AL.val rfl (.inl rfl) (HV.mv rfl) ?_
      have hg0 : gfC n l = 0 := (by omega)
      refine AL.val rfl (.inl rfl) (HV.fa fl70_0 rfl) ?_
      refine AL.val rfl (.inl rfl) (HV.ld rfl va2 (at_cell hb85 rfl)) ?_
      refine AL.val rfl (.inl rfl) (HV.lda (cs := [.int .i64 a40, .int .i64 l41, u42]) rfl va61 (at_cells hb87 rfl)) ?_
      have X104 := Ext.refl H75
      have y105 := hb85.lt
      have y106 := hb86.lt
      have y107 := hb87.lt
      have o108 := X78.bd
      have o109 := X79.bd
      have o110 := X80.bd
      have o111 := X81.bd
      have o112 := X82.bd
      have o113 := X104.bd
      refine AL.w rfl (.inl rfl) (WV.call fn39 rfl (implSG_ok (d := 3) (Kd.ext (kG 3) (hk47 hg0) X82) p n (Nat.le_trans hW X78.bd) (by have q := (gf_ok hg0).2.1; omega))) ?_
      rintro _ H117 ⟨⟨u114, v115, la116, rfl, ho119, ho120⟩, hx118⟩
      have q123 := Nat.le_trans q84 hx118.bd
      have X124 := Ext.trans X78 hx118
      have X125 := Ext.trans X79 hx118
      have X126 := Ext.trans X80 hx118
      have X127 := Ext.trans X81 hx118
      have X128 := Ext.trans X82 hx118
      have X129 := Ext.trans X104 hx118
      have hb130 := hb85.ext hx118
      have hb131 := hb86.ext hx118
      have hb132 := hb87.ext hx118
      have X133 := Ext.refl H117
      have hr121 := ho119.okk (ok' := fun b => (H75.bd ≤ b ∧ la116 b = 0) ∧ b < H117.bd) (fun b hb hlt => ⟨hb, hlt⟩)
      have hr122 := ho120.okk (ok' := fun b => (H75.bd ≤ b ∧ la116 b = 1) ∧ b < H117.bd) (fun b hb hlt => ⟨hb, hlt⟩)
      refine AL.val rfl (.inl rfl) (HV.ex rfl rfl) ?_
      refine AL.val rfl (.inl rfl) (HV.ex rfl rfl) ?_
      refine AL.w0 (.inl rfl) (WV.st rfl rfl va31 rfl hb131 (Nat.le_of_ble_eq_true rfl) (one_cons rfl (one_cons (sl_one1 hr121.rd.isSl) (one_cons rfl (one_cons rfl (one_cons (sl_one1 (rd_ofO hr122.rd).isSl) one_nil)))))) ?_
      rintro _ H136 ⟨hx137, hb138⟩
      have q139 := Nat.le_trans q123 hx137.bd
      have X140 := Ext.thru X124 hx137 (fun z_ hz_ => by rw [hz_]; exact o15)
      have X141 := Ext.thru X125 hx137 (fun z_ hz_ => by rw [hz_]; exact o16)
      have q143 := Nat.le_trans X126.bd hx137.bd
      have q145 := Nat.le_trans X127.bd hx137.bd
      have q147 := Nat.le_trans X128.bd hx137.bd
      have q149 := Nat.le_trans X129.bd hx137.bd
      have q151 := Nat.le_trans X133.bd hx137.bd
      have ho152 := hr121.but hx137 (fun b hb _ e => by have hb' : (H75.bd ≤ b ∧ la116 b = 0) ∧ b < H117.bd := hb; have e' : b = b10 := e; omega) (fun z_ hz_ => by rw [hz_]; exact hb131.w)
      have ho153 := hr122.but hx137 (fun b hb _ e => by have hb' : (H75.bd ≤ b ∧ la116 b = 1) ∧ b < H117.bd := hb; have e' : b = b10 := e; omega) (fun z_ hz_ => by rw [hz_]; exact hb131.w)
      have hb154 := hb130.but hx137 ne17
      have hb155 := hb132.but hx137 (fun e => ne66 e.symm)
      have hb156 : At W H136 b10 ⟨31, [.int .i64 (zI (sgC n p 3 (famG l)) n), u114, .int .i64 (zI (sgC n p 3 (famG l)) p), .int .i64 (zI (sgC n p 3 (famG l)) (gsK p 3 (famG l) : Int)), v115], 5⟩ := hb138
      refine AL.val rfl (.inl rfl) (HV.as rfl) ?_
      refine AL.nx ?_
      refine AW.ret ?_
      refine post_ct rfl rfl rfl va31 hb156 ?_ (.inr rfl)
      have hC := sf_s hpr hg0; rw [hC]; exact ⟨⟨_, _, la116, rfl, ho152.okk (fun b hb _ => ⟨Nat.le_trans o108 hb.1.1, hb.1.2⟩), ho153.okk (fun b hb _ => ⟨Nat.le_trans o108 hb.1.1, hb.1.2⟩)⟩, X140⟩

set_option maxRecDepth 100000 in
theorem markFam_ok (n : Int) {v : Value} {l : List (List Int)} {ok2 : Nat → Prop} (hd : OwnD (kO 2 kI) 22 W H ok2 v l) (hl : (l.length ≤ 1048576 ∧ ∀ x ∈ l, x.length ≤ 1048576)) (q : Int) (hq : 0 ≤ q ∧ q ≤ 1048576) : ACalls Try.prog W 47 #[.agg #[.int .i64 n, v], .int .i64 q] H (fun r H' => (∃ q' : Int, r = .int .i64 q' ∧ 0 ≤ q') ∧ But ok2 H H') := by
  refine ACalls.of (args := [.agg #[.int .i64 n, v], .int .i64 q]) Try.func47 rfl rfl ?_
  have X0 := Ext.refl H
  have hof := offs_le (B := 1048576) hl.2 l.length (Nat.le_refl _)
  have hmL := hd.rd.max
  refine AW.rs ?_
  refine AL.w rfl (.inl rfl) (WV.bx rfl rfl) ?_
  rintro _ H2 ⟨b1, rfl, hx3, hn4, hb5⟩
  have o6 := Nat.le_trans X0.bd hn4
  have X7 := Ext.trans X0 hx3
  have ho8 := hd.ext hx3
  have X9 := Ext.refl H2
  refine AL.val rfl (.inl rfl) (HV.as rfl) ?_
  refine AL.nx ?_
  refine AW.rs ?_
  refine AL.val rfl (.inl rfl) (HV.fa fl70_1 rfl) ?_
  refine AL.val rfl (.inl rfl) (HV.ld rfl va23 (at_cell_add (j := 1) hb5 rfl)) ?_
  refine AL.val rfl (.inl rfl) (HV.mv rfl) ?_
  refine AL.w rfl (.inl rfl) (WV.call fn116 rfl (markSS3_ok ho8 hl q (by omega))) ?_
  rintro _ H10 ⟨⟨kl11, rfl, hk12, hh13, ho15⟩, hx14⟩
  refine AL.val rfl (.inl rfl) (HV.as rfl) ?_
  refine AL.nx ?_
  refine AW.rs ?_
  refine AL.val rfl (.inl rfl) (HV.mv rfl) ?_
  refine AL.val rfl (.inl rfl) (HV.as rfl) ?_
  refine AL.nx ?_
  refine AW.ret ?_
  refine post_one rfl rfl ?_ (.inr rfl)
  exact ⟨⟨_, rfl, by omega⟩, But.trans (Ext.but X7 _) hx14⟩

set_option maxRecDepth 100000 in
set_option maxHeartbeats 4000000 in
theorem law_SchemeOfFamily {v : Value} {l : List (List Int)} {ok : Nat → Prop} (p n : Int) (hr : RdK (kR kI) W H ok v l) (hW : W.heap.size ≤ H.bd) : ACalls Try.prog W 11 #[.int .i64 p, .agg #[.int .i64 n, v]] H (fun r H' => r = .bool true ∧ Ext H H') := by
  refine ACalls.of (args := [.int .i64 p, .agg #[.int .i64 n, v]]) Try.func11 rfl rfl ?_
  have X0 := Ext.refl H
  have hm1 := hr.max
  refine AW.rs ?_
  refine AL.w rfl (.inl rfl) (WV.bx rfl rfl) ?_
  rintro _ H3 ⟨b2, rfl, hx4, hn5, hb6⟩
  have o7 := Nat.le_trans X0.bd hn5
  have X8 := Ext.trans X0 hx4
  have X9 := Ext.refl H3
  refine AL.val rfl (.inl rfl) (HV.as rfl) ?_
  refine AL.nx ?_
  refine AW.rs ?_
  refine AL.val rfl (.inl rfl) (HV.as rfl) ?_
  refine AL.nx ?_
  refine AW.rs ?_
  refine AL.val rfl (.inl rfl) (HV.lda (cs := [.int .i64 n, v]) rfl va67 (at_cells hb6 rfl)) ?_
  refine AL.val rfl (.inl rfl) (HV.mv rfl) ?_
  refine AL.w rfl (.inl rfl) (WV.call fn42 rfl (szFamily_ok n (hr.ext X8) 1048576 (by omega))) ?_
  rintro _ H10 ⟨⟨q12, rfl, ha13, hb14, he15⟩, hx11⟩
  have X16 := Ext.trans X8 hx11
  have X17 := Ext.trans X9 hx11
  have hb18 := hb6.ext hx11
  refine AL.val rfl (.inl rfl) (HV.as rfl) ?_
  refine AL.nx ?_
  refine AW.seq ?_
  refine AW.rs ?_
  refine AL.val rfl (.inl rfl) (HV.mv rfl) ?_
  refine AL.val rfl (.inl rfl) (HV.lti rfl rfl) ?_
  refine AL.nx ?_
  refine AW.ifd rfl (fun c19 => ?_) (fun c19 => ?_)
  · -- then
    refine AW.rs ?_
    refine AL.val rfl (.inl rfl) (HV.as rfl) ?_
    refine AL.nx ?_
    refine AW.ret ?_
    refine ret_and ?_
    refine post_one rfl rfl ?_ (.inr rfl)
    exact ⟨rfl, X16⟩
  · -- else
    refine AW.skip ?_
    refine nrm_and ?_
    refine AW.rs ?_
    have hsz := he15 (by omega)
    refine AL.val rfl (.inl rfl) (HV.mv rfl) ?_
    refine AL.val rfl (.inl rfl) (HV.lda (cs := [.int .i64 n, v]) rfl va67 (at_cells hb18 rfl)) ?_
    refine AL.w rfl (.inl rfl) (WV.call fn44 rfl (toFamily_ok n (hr.ext X16) hsz)) ?_
    rintro _ H21 ⟨⟨v20, rfl, ho23⟩, hx22⟩
    have X25 := Ext.trans X16 hx22
    have X26 := Ext.trans X17 hx22
    have hb27 := hb18.ext hx22
    have X28 := Ext.refl H21
    have hr24 := rd_ofO ho23.rd
    have y29 := hb27.lt
    have o30 := X25.bd
    have o31 := X26.bd
    have o32 := X28.bd
    refine AL.w rfl (.inl rfl) (WV.call fn43 rfl (specSF_ok p n hr24 hsz (Nat.le_trans hW X25.bd))) ?_
    rintro _ H36 ⟨⟨u33, v34, la35, rfl, ho38, ho39⟩, hx37⟩
    have X42 := Ext.trans X25 hx37
    have X43 := Ext.trans X26 hx37
    have X44 := Ext.trans X28 hx37
    have hb45 := hb27.ext hx37
    have X46 := Ext.refl H36
    have hr40 := ho38.rd
    have hr41 := rd_ofO ho39.rd
    refine AL.val rfl (.inl rfl) (HV.mv rfl) ?_
    refine AL.val rfl (.inl rfl) (HV.ex rfl rfl) ?_
    refine AL.val rfl (.inl rfl) (HV.ex rfl rfl) ?_
    refine AL.w rfl (.inl rfl) (WV.al ze31 rfl) ?_
    rintro _ H48 ⟨b47, rfl, hx49, hn50, hb51⟩
    have o52 := Nat.le_trans X42.bd hn50
    have o53 := Nat.le_trans X43.bd hn50
    have o54 := Nat.le_trans X44.bd hn50
    have o55 := Nat.le_trans X46.bd hn50
    have ne56 : b2 ≠ b47 := by have := hb45.lt; omega
    have X57 := Ext.trans X42 hx49
    have X58 := Ext.trans X43 hx49
    have X59 := Ext.trans X44 hx49
    have X60 := Ext.trans X46 hx49
    have hb61 := hb45.ext hx49
    have X62 := Ext.refl H48
    refine AL.w0 (.inl rfl) (WV.st rfl rfl va31 rfl hb51 (Nat.le_of_ble_eq_true rfl) (one_cons rfl (one_cons (sl_one1 (hr40.ext X60).isSl) (one_cons rfl (one_cons rfl (one_cons (sl_one1 (hr41.ext X60).isSl) one_nil)))))) ?_
    rintro _ H63 ⟨hx64, hb65⟩
    have X66 := Ext.thru X57 hx64 (fun z_ hz_ => by rw [hz_]; exact o52)
    have X67 := Ext.thru X58 hx64 (fun z_ hz_ => by rw [hz_]; exact o53)
    have X68 := Ext.thru X59 hx64 (fun z_ hz_ => by rw [hz_]; exact o54)
    have X69 := Ext.thru X60 hx64 (fun z_ hz_ => by rw [hz_]; exact o55)
    have q71 := Nat.le_trans X62.bd hx64.bd
    have hb72 := hb61.but hx64 ne56
    have hb73 : At W H63 b47 ⟨31, [.int .i64 (zI (sfC n p l) n), u33, .int .i64 (zI (sfC n p l) p), .int .i64 (zI (sfC n p l) (gsK p 3 (famG l) : Int)), v34], 5⟩ := hb65
    refine AL.val rfl (.inl rfl) (HV.as rfl) ?_
    refine AL.nx ?_
    refine AW.rs ?_
    refine AL.val rfl (.inl rfl) (HV.lda (cs := [.int .i64 n, v]) rfl va67 (at_cells hb72 rfl)) ?_
    have X74 := Ext.refl H63
    have y75 := hb72.lt
    have y76 := hb73.lt
    have o77 := X66.bd
    have o78 := X67.bd
    have o79 := X68.bd
    have o80 := X69.bd
    have o81 := X74.bd
    have hWc := Nat.le_trans hW X66.bd
    refine AL.w rfl (.inl rfl) (WV.call fn44 rfl (toFamily_ok n (hr.ext X66) hsz)) ?_
    rintro _ H83 ⟨⟨u82, rfl, ho85⟩, hx84⟩
    have q87 := Nat.le_trans q71 hx84.bd
    have X88 := Ext.trans X66 hx84
    have X89 := Ext.trans X67 hx84
    have X90 := Ext.trans X68 hx84
    have X91 := Ext.trans X69 hx84
    have X92 := Ext.trans X74 hx84
    have hb93 := hb72.ext hx84
    have hb94 := hb73.ext hx84
    have X95 := Ext.refl H83
    have ho86 := ho85.lo
    refine AL.w rfl (.inl rfl) (WV.al ze70 rfl) ?_
    rintro _ H98 ⟨b97, rfl, hx99, hn100, hb101⟩
    have o102 := Nat.le_trans X88.bd hn100
    have o103 := Nat.le_trans X89.bd hn100
    have o104 := Nat.le_trans X90.bd hn100
    have o105 := Nat.le_trans X91.bd hn100
    have o106 := Nat.le_trans X92.bd hn100
    have o107 := Nat.le_trans X95.bd hn100
    have o108 := Nat.le_trans q87 hn100
    have ne109 : b2 ≠ b97 := by have := hb93.lt; omega
    have ne110 : b47 ≠ b97 := by have := hb94.lt; omega
    have q111 := Nat.le_trans q87 hx99.bd
    have X112 := Ext.trans X88 hx99
    have X113 := Ext.trans X89 hx99
    have X114 := Ext.trans X90 hx99
    have X115 := Ext.trans X91 hx99
    have X116 := Ext.trans X92 hx99
    have X117 := Ext.trans X95 hx99
    have ho118 := ho86.ext hx99
    have hb119 := hb93.ext hx99
    have hb120 := hb94.ext hx99
    have X121 := Ext.refl H98
    refine AL.w0 (.inl rfl) (WV.st rfl rfl va70 rfl hb101 (Nat.le_of_ble_eq_true rfl) (one_cons rfl (one_cons (sl_one1 (rd_ofO ho118.rd).isSl) one_nil))) ?_
    rintro _ H122 ⟨hx123, hb124⟩
    have q125 := Nat.le_trans q111 hx123.bd
    have X126 := Ext.thru X112 hx123 (fun z_ hz_ => by rw [hz_]; exact o102)
    have X127 := Ext.thru X113 hx123 (fun z_ hz_ => by rw [hz_]; exact o103)
    have X128 := Ext.thru X114 hx123 (fun z_ hz_ => by rw [hz_]; exact o104)
    have X129 := Ext.thru X115 hx123 (fun z_ hz_ => by rw [hz_]; exact o105)
    have X130 := Ext.thru X116 hx123 (fun z_ hz_ => by rw [hz_]; exact o106)
    have X131 := Ext.thru X117 hx123 (fun z_ hz_ => by rw [hz_]; exact o107)
    have q133 := Nat.le_trans X121.bd hx123.bd
    have ho134 := ho118.but hx123 (fun b hb _ e => by have hb' : H63.bd ≤ b ∧ b < H83.bd := hb; have e' : b = b97 := e; omega) (fun z_ hz_ => by rw [hz_]; exact hb101.w)
    have hb135 := hb119.but hx123 ne109
    have hb136 := hb120.but hx123 ne110
    have hb137 : At W H122 b97 ⟨70, [.int .i64 n, u82], 2⟩ := hb124
    refine AL.nx ?_
    refine AW.rs ?_
    refine AL.val rfl (.inl rfl) (HV.mv rfl) ?_
    refine AL.val rfl (.inl rfl) (HV.lda (cs := [.int .i64 n, u82]) rfl va70 (at_cells hb137 rfl)) ?_
    have X138 := Ext.refl H122
    have y139 := hb135.lt
    have y140 := hb136.lt
    have y141 := hb137.lt
    have o142 := X126.bd
    have o143 := X127.bd
    have o144 := X128.bd
    have o145 := X129.bd
    have o146 := X130.bd
    have o147 := X131.bd
    have o148 := X138.bd
    have a149 := ho134.ltb
    refine AL.w rfl (.inl rfl) (WV.call fn45 rfl (implSF_ok p n (rd_ofO ho134.rd) hsz (Nat.le_trans hW X126.bd))) ?_
    rintro _ H153 ⟨⟨u150, v151, la152, rfl, ho155, ho156⟩, hx154⟩
    have q159 := Nat.le_trans q125 hx154.bd
    have q160 := Nat.le_trans q133 hx154.bd
    have X161 := Ext.trans X126 hx154
    have X162 := Ext.trans X127 hx154
    have X163 := Ext.trans X128 hx154
    have X164 := Ext.trans X129 hx154
    have X165 := Ext.trans X130 hx154
    have X166 := Ext.trans X131 hx154
    have X167 := Ext.trans X138 hx154
    have ho168 := ho134.ext hx154
    have hb169 := hb135.ext hx154
    have hb170 := hb136.ext hx154
    have hb171 := hb137.ext hx154
    have X172 := Ext.refl H153
    have hr157 := ho155.okk (ok' := fun b => (H122.bd ≤ b ∧ la152 b = 0) ∧ b < H153.bd) (fun b hb hlt => ⟨hb, hlt⟩)
    have hr158 := ho156.okk (ok' := fun b => (H122.bd ≤ b ∧ la152 b = 1) ∧ b < H153.bd) (fun b hb hlt => ⟨hb, hlt⟩)
    refine AL.val rfl (.inl rfl) (HV.mv rfl) ?_
    refine AL.val rfl (.inl rfl) (HV.ex rfl rfl) ?_
    refine AL.val rfl (.inl rfl) (HV.ex rfl rfl) ?_
    refine AL.w rfl (.inl rfl) (WV.al ze31 rfl) ?_
    rintro _ H176 ⟨b175, rfl, hx177, hn178, hb179⟩
    have o180 := Nat.le_trans X161.bd hn178
    have o181 := Nat.le_trans X162.bd hn178
    have o182 := Nat.le_trans X163.bd hn178
    have o183 := Nat.le_trans X164.bd hn178
    have o184 := Nat.le_trans X165.bd hn178
    have o185 := Nat.le_trans X166.bd hn178
    have o186 := Nat.le_trans X167.bd hn178
    have o187 := Nat.le_trans X172.bd hn178
    have o188 := Nat.le_trans q159 hn178
    have o189 := Nat.le_trans q160 hn178
    have ne190 : b2 ≠ b175 := by have := hb169.lt; omega
    have ne191 : b47 ≠ b175 := by have := hb170.lt; omega
    have ne192 : b97 ≠ b175 := by have := hb171.lt; omega
    have q193 := Nat.le_trans q159 hx177.bd
    have q194 := Nat.le_trans q160 hx177.bd
    have X195 := Ext.trans X161 hx177
    have X196 := Ext.trans X162 hx177
    have X197 := Ext.trans X163 hx177
    have X198 := Ext.trans X164 hx177
    have X199 := Ext.trans X165 hx177
    have X200 := Ext.trans X166 hx177
    have X201 := Ext.trans X167 hx177
    have X202 := Ext.trans X172 hx177
    have ho203 := ho168.ext hx177
    have ho204 := hr157.ext hx177
    have ho205 := hr158.ext hx177
    have hb206 := hb169.ext hx177
    have hb207 := hb170.ext hx177
    have hb208 := hb171.ext hx177
    have X209 := Ext.refl H176
    refine AL.w0 (.inl rfl) (WV.st rfl rfl va31 rfl hb179 (Nat.le_of_ble_eq_true rfl) (one_cons rfl (one_cons (sl_one1 ho204.rd.isSl) (one_cons rfl (one_cons rfl (one_cons (sl_one1 (rd_ofO ho205.rd).isSl) one_nil)))))) ?_
    rintro _ H210 ⟨hx211, hb212⟩
    have q213 := Nat.le_trans q193 hx211.bd
    have q214 := Nat.le_trans q194 hx211.bd
    have X215 := Ext.thru X195 hx211 (fun z_ hz_ => by rw [hz_]; exact o180)
    have X216 := Ext.thru X196 hx211 (fun z_ hz_ => by rw [hz_]; exact o181)
    have X217 := Ext.thru X197 hx211 (fun z_ hz_ => by rw [hz_]; exact o182)
    have X218 := Ext.thru X198 hx211 (fun z_ hz_ => by rw [hz_]; exact o183)
    have X219 := Ext.thru X199 hx211 (fun z_ hz_ => by rw [hz_]; exact o184)
    have X220 := Ext.thru X200 hx211 (fun z_ hz_ => by rw [hz_]; exact o185)
    have X221 := Ext.thru X201 hx211 (fun z_ hz_ => by rw [hz_]; exact o186)
    have X222 := Ext.thru X202 hx211 (fun z_ hz_ => by rw [hz_]; exact o187)
    have q224 := Nat.le_trans X209.bd hx211.bd
    have ho225 := ho203.but hx211 (fun b hb _ e => by have hb' : H63.bd ≤ b ∧ b < H83.bd := hb; have e' : b = b175 := e; omega) (fun z_ hz_ => by rw [hz_]; exact hb179.w)
    have ho226 := ho204.but hx211 (fun b hb _ e => by have hb' : (H122.bd ≤ b ∧ la152 b = 0) ∧ b < H153.bd := hb; have e' : b = b175 := e; omega) (fun z_ hz_ => by rw [hz_]; exact hb179.w)
    have ho227 := ho205.but hx211 (fun b hb _ e => by have hb' : (H122.bd ≤ b ∧ la152 b = 1) ∧ b < H153.bd := hb; have e' : b = b175 := e; omega) (fun z_ hz_ => by rw [hz_]; exact hb179.w)
    have hb228 := hb206.but hx211 ne190
    have hb229 := hb207.but hx211 ne191
    have hb230 := hb208.but hx211 ne192
    have hb231 : At W H210 b175 ⟨31, [.int .i64 (zI (sfC n p l) n), u150, .int .i64 (zI (sfC n p l) p), .int .i64 (zI (sfC n p l) (gsK p 3 (famG l) : Int)), v151], 5⟩ := hb212
    refine AL.val rfl (.inl rfl) (HV.as rfl) ?_
    refine AL.nx ?_
    refine AW.seq ?_
    refine AW.rs ?_
    refine AL.val rfl (.inl rfl) (HV.lda (cs := [.int .i64 (zI (sfC n p l) n), u150, .int .i64 (zI (sfC n p l) p), .int .i64 (zI (sfC n p l) (gsK p 3 (famG l) : Int)), v151]) rfl va31 (at_cells hb231 rfl)) ?_
    refine AL.val rfl (.inl rfl) (HV.lda (cs := [.int .i64 (zI (sfC n p l) n), u33, .int .i64 (zI (sfC n p l) p), .int .i64 (zI (sfC n p l) (gsK p 3 (famG l) : Int)), v34]) rfl va31 (at_cells hb229 rfl)) ?_
    refine AL.w rfl (.inl rfl) (WV.call fn17 rfl (eqSc_ok (zI (sfC n p l) n) (zI (sfC n p l) p) (zI (sfC n p l) (gsK p 3 (famG l) : Int)) (zI (sfC n p l) n) (zI (sfC n p l) p) (zI (sfC n p l) (gsK p 3 (famG l) : Int)) ho226.rd (rd_ofO ho227.rd) (hr40.ext X218) (hr41.ext X218))) ?_
    rintro _ H232 ⟨rfl, hx233⟩
    have q234 := Nat.le_trans q213 hx233.bd
    have q235 := Nat.le_trans q214 hx233.bd
    have q236 := Nat.le_trans q224 hx233.bd
    have X237 := Ext.trans X215 hx233
    have X238 := Ext.trans X216 hx233
    have X239 := Ext.trans X217 hx233
    have X240 := Ext.trans X218 hx233
    have X241 := Ext.trans X219 hx233
    have X242 := Ext.trans X220 hx233
    have X243 := Ext.trans X221 hx233
    have X244 := Ext.trans X222 hx233
    have ho245 := ho225.ext hx233
    have ho246 := ho226.ext hx233
    have ho247 := ho227.ext hx233
    have hb248 := hb228.ext hx233
    have hb249 := hb229.ext hx233
    have hb250 := hb230.ext hx233
    have hb251 := hb231.ext hx233
    refine AL.val rfl (.inl rfl) (HV.not rfl) ?_
    refine AL.val rfl (.inl rfl) (HV.mv rfl) ?_
    by_cases c252 : (zI (sfC n p l) n) = (zI (sfC n p l) n) ∧ (zL (sfC n p l) (gsO p 3 (famG l))) = (zL (sfC n p l) (gsO p 3 (famG l))) ∧ (zI (sfC n p l) p) = (zI (sfC n p l) p) ∧ (zI (sfC n p l) (gsK p 3 (famG l) : Int)) = (zI (sfC n p l) (gsK p 3 (famG l) : Int)) ∧ (zL (sfC n p l) (gsL p 3 (famG l))) = (zL (sfC n p l) (gsL p 3 (famG l)))
    · -- false
      have c252_ : (!decide ((zI (sfC n p l) n) = (zI (sfC n p l) n) ∧ (zL (sfC n p l) (gsO p 3 (famG l))) = (zL (sfC n p l) (gsO p 3 (famG l))) ∧ (zI (sfC n p l) p) = (zI (sfC n p l) p) ∧ (zI (sfC n p l) (gsK p 3 (famG l) : Int)) = (zI (sfC n p l) (gsK p 3 (famG l) : Int)) ∧ (zL (sfC n p l) (gsL p 3 (famG l))) = (zL (sfC n p l) (gsL p 3 (famG l))))) = false := by rw [decide_eq_true c252]; rfl
      rw [c252_]
      refine AL.val rfl (.inr ⟨_, _, _, rfl, rfl, rfl⟩) (HV.mv rfl) ?_
      refine AL.val rfl (.inr ⟨_, _, _, rfl, rfl, rfl⟩) (HV.mv rfl) ?_
      refine AL.val rfl (.inr ⟨_, _, _, rfl, rfl, rfl⟩) (HV.nei rfl rfl) ?_
      refine AL.val rfl (.inl rfl) (HV.pickF rfl rfl) ?_
      refine AL.nx ?_
      refine AW.ifd rfl (fun c253 => ?_) (fun c253 => ?_)
      · -- then
        refine AW.rs ?_
        refine AL.val rfl (.inl rfl) (HV.as rfl) ?_
        refine AL.nx ?_
        refine AW.ret ?_
        refine ret_and ?_
        refine post_one rfl rfl ?_ (.inr rfl)
        exfalso; first | omega | (simp at c253; done) | exact c253 ⟨rfl, rfl, rfl, rfl, rfl⟩ | exact absurd c253 (by simp)
      · -- else
        refine AW.skip ?_
        refine nrm_and ?_
        refine AW.seq ?_
        refine AW.seq ?_
        refine AW.draw' [0, 0, 2, 7, 15] mixed (by rfl) ?_
        refine Dr.read 0 _ 45 _ rfl rfl rfl rfl rfl (RV.of (by intro _ _ h; cases h) (.inl rfl) (fun _ xd => HV.lda (cs := [.int .i64 n, u82]) rfl va70 (fun j u hu => rdc_ext xd ((at_cells hb250 rfl) j u hu)))) ?_
        refine Dr.read 1 _ 46 _ rfl rfl rfl rfl rfl (RV.of (by intro _ _ h; cases h) (.inl rfl) (fun _ xd => HV.lda (cs := [.int .i64 n, v]) rfl va67 (fun j u hu => rdc_ext xd ((at_cells hb248 rfl) j u hu)))) ?_
        refine Dr.eff 2 _ _ rfl (by intro d h; cases h; exact ⟨rfl, rfl⟩) rfl rfl rfl (EC.of (by intro _ _ h; cases h) (.inl rfl) (WV.call fn44 rfl (toFamily_ok n (hr.ext X237) hsz))) (fun v H' h => .inl (h.2)) ?_
        rintro _ H255 ⟨⟨v254, rfl, ho257⟩, hx256⟩
        have q259 := Nat.le_trans q234 hx256.bd
        have q260 := Nat.le_trans q235 hx256.bd
        have q261 := Nat.le_trans q236 hx256.bd
        have X262 := Ext.trans X237 hx256
        have X263 := Ext.trans X238 hx256
        have X264 := Ext.trans X239 hx256
        have X265 := Ext.trans X240 hx256
        have X266 := Ext.trans X241 hx256
        have X267 := Ext.trans X242 hx256
        have X268 := Ext.trans X243 hx256
        have X269 := Ext.trans X244 hx256
        have ho270 := ho245.ext hx256
        have ho271 := ho246.ext hx256
        have ho272 := ho247.ext hx256
        have hb273 := hb248.ext hx256
        have hb274 := hb249.ext hx256
        have hb275 := hb250.ext hx256
        have hb276 := hb251.ext hx256
        have X277 := Ext.refl H255
        have hr258 := rd_ofO ho257.rd
        refine Dr.eff 3 _ _ rfl (by intro d h; cases h; exact ⟨rfl, rfl⟩) rfl rfl rfl (EC.of (by intro _ _ h; cases h) (.inl rfl) (WV.call fn46 rfl (eqFam_ok n n (rd_ofO ho270.rd) hr258))) (fun v H' h => .inl (h.2)) ?_
        rintro _ H278 ⟨rfl, hx279⟩
        have q280 := Nat.le_trans q259 hx279.bd
        have q281 := Nat.le_trans q260 hx279.bd
        have q282 := Nat.le_trans q261 hx279.bd
        have X283 := Ext.trans X262 hx279
        have X284 := Ext.trans X263 hx279
        have X285 := Ext.trans X264 hx279
        have X286 := Ext.trans X265 hx279
        have X287 := Ext.trans X266 hx279
        have X288 := Ext.trans X267 hx279
        have X289 := Ext.trans X268 hx279
        have X290 := Ext.trans X269 hx279
        have X291 := Ext.trans X277 hx279
        have ho292 := ho270.ext hx279
        have ho293 := ho271.ext hx279
        have ho294 := ho272.ext hx279
        have hb295 := hb273.ext hx279
        have hb296 := hb274.ext hx279
        have hb297 := hb275.ext hx279
        have hb298 := hb276.ext hx279
        refine Dr.read 4 _ 49 _ rfl rfl rfl rfl rfl (RV.of (by intro _ _ h; cases h) (.inl rfl) (fun _ xd => HV.not rfl)) ?_
        refine Dr.fin rfl ?_
        refine nrm_and ?_
        refine AW.ifn rfl (fun c299 => ?_) (fun c299 => ?_)
        · -- then
          refine AW.rs ?_
          refine AL.val rfl (.inl rfl) (HV.as rfl) ?_
          refine AL.nx ?_
          refine AW.ret ?_
          refine ret_and ?_
          refine post_one rfl rfl ?_ (.inr rfl)
          exfalso; first | omega | (simp at c299; done) | exact c299 ⟨rfl, rfl, rfl, rfl, rfl⟩ | exact absurd c299 (by simp)
        · -- else
          refine AW.skip ?_
          refine nrm_and ?_
          refine AW.rs ?_
          refine AL.val rfl (.inl rfl) (HV.as rfl) ?_
          refine AL.nx ?_
          refine AW.rs ?_
          refine AL.val rfl (.inl rfl) (HV.lda (cs := [.int .i64 n, u82]) rfl va70 (at_cells hb297 rfl)) ?_
          refine AL.val rfl (.inl rfl) (HV.mv rfl) ?_
          refine AL.w rfl (.inl rfl) (WV.call fn47 rfl (markFam_ok n ho292 hsz 1 (by omega))) ?_
          rintro _ H300 ⟨⟨q301, rfl, ha302⟩, hx303⟩
          have q304 := Nat.le_trans q280 hx303.bd
          have q305 := Nat.le_trans q281 hx303.bd
          have q306 := Nat.le_trans q282 hx303.bd
          have X307 := Ext.thru X283 hx303 (fun b hb => Nat.le_trans o77 hb.1)
          have X308 := Ext.thru X284 hx303 (fun b hb => Nat.le_trans o78 hb.1)
          have X309 := Ext.thru X285 hx303 (fun b hb => Nat.le_trans o79 hb.1)
          have X310 := Ext.thru X286 hx303 (fun b hb => Nat.le_trans o80 hb.1)
          have X311 := Ext.thru X287 hx303 (fun b hb => Nat.le_trans o81 hb.1)
          have q313 := Nat.le_trans X288.bd hx303.bd
          have q315 := Nat.le_trans X289.bd hx303.bd
          have q317 := Nat.le_trans X290.bd hx303.bd
          have q319 := Nat.le_trans X291.bd hx303.bd
          have ho320 := ho293.but hx303 (fun b hb _ e => by have h1 : (H122.bd ≤ b ∧ la152 b = 0) ∧ b < H153.bd := hb; have h2 : H63.bd ≤ b ∧ b < H83.bd := e; omega) (fun b hb => by have h2 : H63.bd ≤ b ∧ b < H83.bd := hb; omega)
          have ho321 := ho294.but hx303 (fun b hb _ e => by have h1 : (H122.bd ≤ b ∧ la152 b = 1) ∧ b < H153.bd := hb; have h2 : H63.bd ≤ b ∧ b < H83.bd := e; omega) (fun b hb => by have h2 : H63.bd ≤ b ∧ b < H83.bd := hb; omega)
          have hb322 := hb295.but hx303 (fun e => by have q : H63.bd ≤ b2 ∧ b2 < H83.bd := e; omega)
          have hb323 := hb296.but hx303 (fun e => by have q : H63.bd ≤ b47 ∧ b47 < H83.bd := e; omega)
          have hb325 := hb298.but hx303 (fun e => by have q : H63.bd ≤ b175 ∧ b175 < H83.bd := e; omega)
          refine AL.val rfl (.inl rfl) (HV.as rfl) ?_
          refine AL.nx ?_
          refine AW.seq ?_
          refine AW.rs ?_
          refine AL.val rfl (.inl rfl) (HV.mv rfl) ?_
          refine AL.val rfl (.inl rfl) (HV.lti rfl rfl) ?_
          refine AL.val rfl (.inl rfl) (HV.mv rfl) ?_
          by_cases c326 : q301 < 0
          · -- true
            have c326_ : decide (q301 < 0) = true := decide_eq_true c326
            rw [c326_]
            refine AL.off rfl rfl (by decide) rfl ?_
            refine AL.off rfl rfl (by decide) rfl ?_
            refine AL.off rfl rfl (by decide) rfl ?_
            refine AL.off rfl rfl (by decide) rfl ?_
            refine AL.val rfl (.inl rfl) (HV.pickT rfl rfl) ?_
            refine AL.val rfl (.inl rfl) (HV.mv rfl) ?_
            refine AL.off rfl rfl (by decide) rfl ?_
            refine AL.off rfl rfl (by decide) rfl ?_
            refine AL.off rfl rfl (by decide) rfl ?_
            refine AL.val rfl (.inl rfl) (HV.pickT rfl rfl) ?_
            refine AL.nx ?_
            refine AW.cond rfl (fun _ => ?_) (fun h => by cases h)
            refine AW.rs ?_
            refine AL.val rfl (.inl rfl) (HV.as rfl) ?_
            refine AL.nx ?_
            refine AW.ret ?_
            refine ret_and ?_
            refine post_one rfl rfl ?_ (.inr rfl)
            exfalso; first | omega | (simp at c326; done) | exact c326 ⟨rfl, rfl, rfl, rfl, rfl⟩ | exact absurd c326 (by simp)
          · -- false
            have c326_ : decide (q301 < 0) = false := decide_eq_false c326
            rw [c326_]
            refine AL.val rfl (.inr ⟨_, _, _, rfl, rfl, rfl⟩) (HV.lda (cs := [.int .i64 (zI (sfC n p l) n), u150, .int .i64 (zI (sfC n p l) p), .int .i64 (zI (sfC n p l) (gsK p 3 (famG l) : Int)), v151]) rfl va31 (at_cells hb325 rfl)) ?_
            refine AL.val rfl (.inr ⟨_, _, _, rfl, rfl, rfl⟩) (HV.lda (cs := [.int .i64 (zI (sfC n p l) n), u33, .int .i64 (zI (sfC n p l) p), .int .i64 (zI (sfC n p l) (gsK p 3 (famG l) : Int)), v34]) rfl va31 (at_cells hb323 rfl)) ?_
            refine AL.w rfl (.inr ⟨_, _, _, rfl, rfl, rfl⟩) (WV.call fn17 rfl (eqSc_ok (zI (sfC n p l) n) (zI (sfC n p l) p) (zI (sfC n p l) (gsK p 3 (famG l) : Int)) (zI (sfC n p l) n) (zI (sfC n p l) p) (zI (sfC n p l) (gsK p 3 (famG l) : Int)) ho320.rd (rd_ofO ho321.rd) (hr40.ext X310) (hr41.ext X310))) ?_
            rintro _ H328 ⟨rfl, hx329⟩
            have q330 := Nat.le_trans q304 hx329.bd
            have q331 := Nat.le_trans q305 hx329.bd
            have q332 := Nat.le_trans q306 hx329.bd
            have q333 := Nat.le_trans q313 hx329.bd
            have q334 := Nat.le_trans q315 hx329.bd
            have q335 := Nat.le_trans q317 hx329.bd
            have q336 := Nat.le_trans q319 hx329.bd
            have X337 := Ext.trans X307 hx329
            have X338 := Ext.trans X308 hx329
            have X339 := Ext.trans X309 hx329
            have X340 := Ext.trans X310 hx329
            have X341 := Ext.trans X311 hx329
            have ho342 := ho320.ext hx329
            have ho343 := ho321.ext hx329
            have hb344 := hb322.ext hx329
            have hb345 := hb323.ext hx329
            have hb346 := hb325.ext hx329
            refine AL.val rfl (.inr ⟨_, _, _, rfl, rfl, rfl⟩) (HV.not rfl) ?_
            refine AL.val rfl (.inl rfl) (HV.pickF rfl rfl) ?_
            refine AL.val rfl (.inl rfl) (HV.mv rfl) ?_
            by_cases c347 : (zI (sfC n p l) n) = (zI (sfC n p l) n) ∧ (zL (sfC n p l) (gsO p 3 (famG l))) = (zL (sfC n p l) (gsO p 3 (famG l))) ∧ (zI (sfC n p l) p) = (zI (sfC n p l) p) ∧ (zI (sfC n p l) (gsK p 3 (famG l) : Int)) = (zI (sfC n p l) (gsK p 3 (famG l) : Int)) ∧ (zL (sfC n p l) (gsL p 3 (famG l))) = (zL (sfC n p l) (gsL p 3 (famG l)))
            · -- false
              have c347_ : (!decide ((zI (sfC n p l) n) = (zI (sfC n p l) n) ∧ (zL (sfC n p l) (gsO p 3 (famG l))) = (zL (sfC n p l) (gsO p 3 (famG l))) ∧ (zI (sfC n p l) p) = (zI (sfC n p l) p) ∧ (zI (sfC n p l) (gsK p 3 (famG l) : Int)) = (zI (sfC n p l) (gsK p 3 (famG l) : Int)) ∧ (zL (sfC n p l) (gsL p 3 (famG l))) = (zL (sfC n p l) (gsL p 3 (famG l))))) = false := by rw [decide_eq_true c347]; rfl
              rw [c347_]
              refine AL.val rfl (.inr ⟨_, _, _, rfl, rfl, rfl⟩) (HV.mv rfl) ?_
              refine AL.val rfl (.inr ⟨_, _, _, rfl, rfl, rfl⟩) (HV.mv rfl) ?_
              refine AL.val rfl (.inr ⟨_, _, _, rfl, rfl, rfl⟩) (HV.nei rfl rfl) ?_
              refine AL.val rfl (.inl rfl) (HV.pickF rfl rfl) ?_
              refine AL.nx ?_
              refine AW.ifd rfl (fun c348 => ?_) (fun c348 => ?_)
              · -- then
                refine AW.rs ?_
                refine AL.val rfl (.inl rfl) (HV.as rfl) ?_
                refine AL.nx ?_
                refine AW.ret ?_
                refine ret_and ?_
                refine post_one rfl rfl ?_ (.inr rfl)
                exfalso; first | omega | (simp at c348; done) | exact c348 ⟨rfl, rfl, rfl, rfl, rfl⟩ | exact absurd c348 (by simp)
              · -- else
                refine AW.skip ?_
                refine nrm_and ?_
                refine AW.rs ?_
                refine AL.val rfl (.inl rfl) (HV.as rfl) ?_
                refine AL.nx ?_
                refine AW.rs ?_
                refine AL.val rfl (.inl rfl) (HV.lda (cs := [.int .i64 (zI (sfC n p l) n), u150, .int .i64 (zI (sfC n p l) p), .int .i64 (zI (sfC n p l) (gsK p 3 (famG l) : Int)), v151]) rfl va31 (at_cells hb346 rfl)) ?_
                refine AL.val rfl (.inl rfl) (HV.mv rfl) ?_
                refine AL.w rfl (.inl rfl) (WV.call fn18 rfl (markSc3_ok (zI (sfC n p l) n) (zI (sfC n p l) p) (zI (sfC n p l) (gsK p 3 (famG l) : Int)) ho342 ho343 (fun b h1 h2 => by have a1 := h1.1.2; have a2 := h2.1.2; omega) (fun b h => by have a1 : H122.bd ≤ b := h.1.1; omega) (sf_len (n := n) (p := p) (l := l)).1 (sf_len (n := n) (p := p) (l := l)).2 1 (by omega))) ?_
                rintro _ H349 ⟨⟨ko350, kl351, rfl, e354, e355, e356, e357, ho358, ho359⟩, hx352⟩
                have hx353 := But.mono hx352 (fun b e => (e.elim (fun q => ⟨q.1.1, q.2⟩) (fun q => ⟨q.1.1, q.2⟩) : H122.bd ≤ b ∧ b < H153.bd))
                have hof360 := offs_le (B := 1048576) ((sf_len (n := n) (p := p) (l := l))).2.2 (zL (sfC n p l) (gsL p 3 (famG l))).length (Nat.le_refl _)
                have q363 := Nat.le_trans q330 hx353.bd
                have q364 := Nat.le_trans q331 hx353.bd
                have q365 := Nat.le_trans q332 hx353.bd
                have q366 := Nat.le_trans q333 hx353.bd
                have q367 := Nat.le_trans q334 hx353.bd
                have q368 := Nat.le_trans q335 hx353.bd
                have q369 := Nat.le_trans q336 hx353.bd
                have X370 := Ext.thru X337 hx353 (fun b hb => Nat.le_trans o142 hb.1)
                have X371 := Ext.thru X338 hx353 (fun b hb => Nat.le_trans o143 hb.1)
                have X372 := Ext.thru X339 hx353 (fun b hb => Nat.le_trans o144 hb.1)
                have X373 := Ext.thru X340 hx353 (fun b hb => Nat.le_trans o145 hb.1)
                have X374 := Ext.thru X341 hx353 (fun b hb => Nat.le_trans o146 hb.1)
                have hb375 := hb344.but hx353 (fun e => by have q : H122.bd ≤ b2 ∧ b2 < H153.bd := e; omega)
                have hb376 := hb345.but hx353 (fun e => by have q : H122.bd ≤ b47 ∧ b47 < H153.bd := e; omega)
                have hb377 := hb346.but hx353 (fun e => by have q : H122.bd ≤ b175 ∧ b175 < H153.bd := e; omega)
                refine AL.val rfl (.inl rfl) (HV.as rfl) ?_
                refine AL.nx ?_
                refine AW.rs ?_
                refine AL.val rfl (.inl rfl) (HV.as rfl) ?_
                refine AL.nx ?_
                refine AW.rs ?_
                refine AL.val rfl (.inl rfl) (HV.lda (cs := [.int .i64 (zI (sfC n p l) n), u150, .int .i64 (zI (sfC n p l) p), .int .i64 (zI (sfC n p l) (gsK p 3 (famG l) : Int)), v151]) rfl va31 (at_cells hb377 rfl)) ?_
                refine AL.val rfl (.inl rfl) (HV.mv rfl) ?_
                have hbz := (sf_len (n := n) (p := p) (l := l))
                refine AL.w rfl (.inl rfl) (WV.call fn19 rfl (heldSc_ok (zI (sfC n p l) n) (zI (sfC n p l) p) (zI (sfC n p l) (gsK p 3 (famG l) : Int)) ho358.rd (rd_ofO ho359.rd) 1 (by omega) hbz.1 e354 e355 hbz.2 e356 e357)) ?_
                rintro _ H378 ⟨rfl, hx379⟩
                have q380 := Nat.le_trans q363 hx379.bd
                have q381 := Nat.le_trans q364 hx379.bd
                have q382 := Nat.le_trans q365 hx379.bd
                have q383 := Nat.le_trans q366 hx379.bd
                have q384 := Nat.le_trans q367 hx379.bd
                have q385 := Nat.le_trans q368 hx379.bd
                have q386 := Nat.le_trans q369 hx379.bd
                have X387 := Ext.trans X370 hx379
                have X388 := Ext.trans X371 hx379
                have X389 := Ext.trans X372 hx379
                have X390 := Ext.trans X373 hx379
                have X391 := Ext.trans X374 hx379
                have ho392 := ho358.ext hx379
                have ho393 := ho359.ext hx379
                have hb394 := hb375.ext hx379
                have hb395 := hb376.ext hx379
                have hb396 := hb377.ext hx379
                refine AL.val rfl (.inl rfl) (HV.as rfl) ?_
                refine AL.nx ?_
                refine AW.seq ?_
                refine AW.rs ?_
                refine AL.val rfl (.inl rfl) (HV.mv rfl) ?_
                refine AL.val rfl (.inl rfl) (HV.lti rfl rfl) ?_
                refine AL.nx ?_
                refine AW.ifd rfl (fun c397 => ?_) (fun c397 => ?_)
                · -- then
                  refine AW.rs ?_
                  refine AL.val rfl (.inl rfl) (HV.as rfl) ?_
                  refine AL.nx ?_
                  refine AW.ret ?_
                  refine ret_and ?_
                  refine post_one rfl rfl ?_ (.inr rfl)
                  exfalso; first | omega | (simp at c397; done) | exact c397 ⟨rfl, rfl, rfl, rfl, rfl⟩ | exact absurd c397 (by simp)
                · -- else
                  refine AW.skip ?_
                  refine nrm_and ?_
                  refine AW.seq ?_
                  refine AW.rs ?_
                  refine AL.val rfl (.inl rfl) (HV.mv rfl) ?_
                  refine AL.val rfl (.inl rfl) (HV.mv rfl) ?_
                  refine AL.val rfl (.inl rfl) (HV.nei rfl rfl) ?_
                  refine AL.nx ?_
                  refine AW.ifd rfl (fun c398 => ?_) (fun c398 => ?_)
                  · -- then
                    refine AW.rs ?_
                    refine AL.val rfl (.inl rfl) (HV.as rfl) ?_
                    refine AL.nx ?_
                    refine AW.ret ?_
                    refine ret_and ?_
                    refine post_one rfl rfl ?_ (.inr rfl)
                    exfalso; first | omega | (simp at c398; done) | exact c398 ⟨rfl, rfl, rfl, rfl, rfl⟩ | exact absurd c398 (by simp)
                  · -- else
                    refine AW.skip ?_
                    refine nrm_and ?_
                    refine AW.rs ?_
                    refine AL.val rfl (.inl rfl) (HV.mv rfl) ?_
                    refine AL.val rfl (.inl rfl) (HV.lda (cs := [.int .i64 n, v]) rfl va67 (at_cells hb394 rfl)) ?_
                    refine AL.w rfl (.inl rfl) (WV.call fn44 rfl (toFamily_ok n (hr.ext X387) hsz)) ?_
                    rintro _ H400 ⟨⟨v399, rfl, ho402⟩, hx401⟩
                    have q404 := Nat.le_trans q380 hx401.bd
                    have q405 := Nat.le_trans q381 hx401.bd
                    have q406 := Nat.le_trans q382 hx401.bd
                    have q407 := Nat.le_trans q383 hx401.bd
                    have q408 := Nat.le_trans q384 hx401.bd
                    have q409 := Nat.le_trans q385 hx401.bd
                    have q410 := Nat.le_trans q386 hx401.bd
                    have X411 := Ext.trans X387 hx401
                    have X412 := Ext.trans X388 hx401
                    have X413 := Ext.trans X389 hx401
                    have X414 := Ext.trans X390 hx401
                    have X415 := Ext.trans X391 hx401
                    have ho416 := ho392.ext hx401
                    have ho417 := ho393.ext hx401
                    have hb418 := hb394.ext hx401
                    have hb419 := hb395.ext hx401
                    have hb420 := hb396.ext hx401
                    have X421 := Ext.refl H400
                    have hr403 := rd_ofO ho402.rd
                    have y422 := hb418.lt
                    have y423 := hb419.lt
                    have y424 := hb420.lt
                    have o425 := X411.bd
                    have o426 := X412.bd
                    have o427 := X413.bd
                    have o428 := X414.bd
                    have o429 := X415.bd
                    have o430 := X421.bd
                    have a431 := ho416.ltb
                    have a432 := ho417.ltb
                    refine AL.w rfl (.inl rfl) (WV.call fn45 rfl (implSF_ok p n hr403 hsz (Nat.le_trans hW X411.bd))) ?_
                    rintro _ H436 ⟨⟨u433, v434, la435, rfl, ho438, ho439⟩, hx437⟩
                    have q442 := Nat.le_trans q404 hx437.bd
                    have q443 := Nat.le_trans q405 hx437.bd
                    have q444 := Nat.le_trans q406 hx437.bd
                    have q445 := Nat.le_trans q407 hx437.bd
                    have q446 := Nat.le_trans q408 hx437.bd
                    have q447 := Nat.le_trans q409 hx437.bd
                    have q448 := Nat.le_trans q410 hx437.bd
                    have X449 := Ext.trans X411 hx437
                    have X450 := Ext.trans X412 hx437
                    have X451 := Ext.trans X413 hx437
                    have X452 := Ext.trans X414 hx437
                    have X453 := Ext.trans X415 hx437
                    have X454 := Ext.trans X421 hx437
                    have ho455 := ho416.ext hx437
                    have ho456 := ho417.ext hx437
                    have hb457 := hb418.ext hx437
                    have hb458 := hb419.ext hx437
                    have hb459 := hb420.ext hx437
                    have X460 := Ext.refl H436
                    have hr440 := ho438.rd
                    have hr441 := rd_ofO ho439.rd
                    refine AL.val rfl (.inl rfl) (HV.mv rfl) ?_
                    refine AL.val rfl (.inl rfl) (HV.ex rfl rfl) ?_
                    refine AL.val rfl (.inl rfl) (HV.ex rfl rfl) ?_
                    refine AL.w rfl (.inl rfl) (WV.al ze31 rfl) ?_
                    rintro _ H462 ⟨b461, rfl, hx463, hn464, hb465⟩
                    have o466 := Nat.le_trans X449.bd hn464
                    have o467 := Nat.le_trans X450.bd hn464
                    have o468 := Nat.le_trans X451.bd hn464
                    have o469 := Nat.le_trans X452.bd hn464
                    have o470 := Nat.le_trans X453.bd hn464
                    have o471 := Nat.le_trans X454.bd hn464
                    have o472 := Nat.le_trans X460.bd hn464
                    have o473 := Nat.le_trans q442 hn464
                    have o474 := Nat.le_trans q443 hn464
                    have o475 := Nat.le_trans q444 hn464
                    have o476 := Nat.le_trans q445 hn464
                    have o477 := Nat.le_trans q446 hn464
                    have o478 := Nat.le_trans q447 hn464
                    have o479 := Nat.le_trans q448 hn464
                    have ne480 : b2 ≠ b461 := by have := hb457.lt; omega
                    have ne481 : b47 ≠ b461 := by have := hb458.lt; omega
                    have ne482 : b175 ≠ b461 := by have := hb459.lt; omega
                    have q483 := Nat.le_trans q442 hx463.bd
                    have q484 := Nat.le_trans q443 hx463.bd
                    have q485 := Nat.le_trans q444 hx463.bd
                    have q486 := Nat.le_trans q445 hx463.bd
                    have q487 := Nat.le_trans q446 hx463.bd
                    have q488 := Nat.le_trans q447 hx463.bd
                    have q489 := Nat.le_trans q448 hx463.bd
                    have X490 := Ext.trans X449 hx463
                    have X491 := Ext.trans X450 hx463
                    have X492 := Ext.trans X451 hx463
                    have X493 := Ext.trans X452 hx463
                    have X494 := Ext.trans X453 hx463
                    have X495 := Ext.trans X454 hx463
                    have X496 := Ext.trans X460 hx463
                    have ho497 := ho455.ext hx463
                    have ho498 := ho456.ext hx463
                    have hb499 := hb457.ext hx463
                    have hb500 := hb458.ext hx463
                    have hb501 := hb459.ext hx463
                    have X502 := Ext.refl H462
                    refine AL.w0 (.inl rfl) (WV.st rfl rfl va31 rfl hb465 (Nat.le_of_ble_eq_true rfl) (one_cons rfl (one_cons (sl_one1 (hr440.ext X496).isSl) (one_cons rfl (one_cons rfl (one_cons (sl_one1 (hr441.ext X496).isSl) one_nil)))))) ?_
                    rintro _ H503 ⟨hx504, hb505⟩
                    have q506 := Nat.le_trans q483 hx504.bd
                    have q507 := Nat.le_trans q484 hx504.bd
                    have q508 := Nat.le_trans q485 hx504.bd
                    have q509 := Nat.le_trans q486 hx504.bd
                    have q510 := Nat.le_trans q487 hx504.bd
                    have q511 := Nat.le_trans q488 hx504.bd
                    have q512 := Nat.le_trans q489 hx504.bd
                    have X513 := Ext.thru X490 hx504 (fun z_ hz_ => by rw [hz_]; exact o466)
                    have X514 := Ext.thru X491 hx504 (fun z_ hz_ => by rw [hz_]; exact o467)
                    have X515 := Ext.thru X492 hx504 (fun z_ hz_ => by rw [hz_]; exact o468)
                    have X516 := Ext.thru X493 hx504 (fun z_ hz_ => by rw [hz_]; exact o469)
                    have X517 := Ext.thru X494 hx504 (fun z_ hz_ => by rw [hz_]; exact o470)
                    have X518 := Ext.thru X495 hx504 (fun z_ hz_ => by rw [hz_]; exact o471)
                    have X519 := Ext.thru X496 hx504 (fun z_ hz_ => by rw [hz_]; exact o472)
                    have q521 := Nat.le_trans X502.bd hx504.bd
                    have ho522 := ho497.but hx504 (fun b hb _ e => by have hb' : (H122.bd ≤ b ∧ la152 b = 0) ∧ b < H153.bd := hb; have e' : b = b461 := e; omega) (fun z_ hz_ => by rw [hz_]; exact hb465.w)
                    have ho523 := ho498.but hx504 (fun b hb _ e => by have hb' : (H122.bd ≤ b ∧ la152 b = 1) ∧ b < H153.bd := hb; have e' : b = b461 := e; omega) (fun z_ hz_ => by rw [hz_]; exact hb465.w)
                    have hb524 := hb499.but hx504 ne480
                    have hb525 := hb500.but hx504 ne481
                    have hb526 := hb501.but hx504 ne482
                    have hb527 : At W H503 b461 ⟨31, [.int .i64 (zI (sfC n p l) n), u433, .int .i64 (zI (sfC n p l) p), .int .i64 (zI (sfC n p l) (gsK p 3 (famG l) : Int)), v434], 5⟩ := hb505
                    refine AL.val rfl (.inl rfl) (HV.as rfl) ?_
                    refine AL.nx ?_
                    refine AW.seq ?_
                    refine AW.rs ?_
                    refine AL.val rfl (.inl rfl) (HV.lda (cs := [.int .i64 (zI (sfC n p l) n), u433, .int .i64 (zI (sfC n p l) p), .int .i64 (zI (sfC n p l) (gsK p 3 (famG l) : Int)), v434]) rfl va31 (at_cells hb527 rfl)) ?_
                    refine AL.val rfl (.inl rfl) (HV.lda (cs := [.int .i64 (zI (sfC n p l) n), u33, .int .i64 (zI (sfC n p l) p), .int .i64 (zI (sfC n p l) (gsK p 3 (famG l) : Int)), v34]) rfl va31 (at_cells hb525 rfl)) ?_
                    refine AL.w rfl (.inl rfl) (WV.call fn17 rfl (eqSc_ok (zI (sfC n p l) n) (zI (sfC n p l) p) (zI (sfC n p l) (gsK p 3 (famG l) : Int)) (zI (sfC n p l) n) (zI (sfC n p l) p) (zI (sfC n p l) (gsK p 3 (famG l) : Int)) (hr440.ext X519) (hr441.ext X519) (hr40.ext X516) (hr41.ext X516))) ?_
                    rintro _ H528 ⟨rfl, hx529⟩
                    have q530 := Nat.le_trans q506 hx529.bd
                    have q531 := Nat.le_trans q507 hx529.bd
                    have q532 := Nat.le_trans q508 hx529.bd
                    have q533 := Nat.le_trans q509 hx529.bd
                    have q534 := Nat.le_trans q510 hx529.bd
                    have q535 := Nat.le_trans q511 hx529.bd
                    have q536 := Nat.le_trans q512 hx529.bd
                    have q537 := Nat.le_trans q521 hx529.bd
                    have X538 := Ext.trans X513 hx529
                    have X539 := Ext.trans X514 hx529
                    have X540 := Ext.trans X515 hx529
                    have X541 := Ext.trans X516 hx529
                    have X542 := Ext.trans X517 hx529
                    have X543 := Ext.trans X518 hx529
                    have X544 := Ext.trans X519 hx529
                    have ho545 := ho522.ext hx529
                    have ho546 := ho523.ext hx529
                    have hb547 := hb524.ext hx529
                    have hb548 := hb525.ext hx529
                    have hb549 := hb526.ext hx529
                    have hb550 := hb527.ext hx529
                    refine AL.val rfl (.inl rfl) (HV.not rfl) ?_
                    refine AL.val rfl (.inl rfl) (HV.mv rfl) ?_
                    by_cases c551 : (zI (sfC n p l) n) = (zI (sfC n p l) n) ∧ (zL (sfC n p l) (gsO p 3 (famG l))) = (zL (sfC n p l) (gsO p 3 (famG l))) ∧ (zI (sfC n p l) p) = (zI (sfC n p l) p) ∧ (zI (sfC n p l) (gsK p 3 (famG l) : Int)) = (zI (sfC n p l) (gsK p 3 (famG l) : Int)) ∧ (zL (sfC n p l) (gsL p 3 (famG l))) = (zL (sfC n p l) (gsL p 3 (famG l)))
                    · -- false
                      have c551_ : (!decide ((zI (sfC n p l) n) = (zI (sfC n p l) n) ∧ (zL (sfC n p l) (gsO p 3 (famG l))) = (zL (sfC n p l) (gsO p 3 (famG l))) ∧ (zI (sfC n p l) p) = (zI (sfC n p l) p) ∧ (zI (sfC n p l) (gsK p 3 (famG l) : Int)) = (zI (sfC n p l) (gsK p 3 (famG l) : Int)) ∧ (zL (sfC n p l) (gsL p 3 (famG l))) = (zL (sfC n p l) (gsL p 3 (famG l))))) = false := by rw [decide_eq_true c551]; rfl
                      rw [c551_]
                      refine AL.val rfl (.inr ⟨_, _, _, rfl, rfl, rfl⟩) (HV.mv rfl) ?_
                      refine AL.val rfl (.inr ⟨_, _, _, rfl, rfl, rfl⟩) (HV.mv rfl) ?_
                      refine AL.val rfl (.inr ⟨_, _, _, rfl, rfl, rfl⟩) (HV.nei rfl rfl) ?_
                      refine AL.val rfl (.inl rfl) (HV.pickF rfl rfl) ?_
                      refine AL.nx ?_
                      refine AW.ifd rfl (fun c552 => ?_) (fun c552 => ?_)
                      · -- then
                        refine AW.rs ?_
                        refine AL.val rfl (.inl rfl) (HV.as rfl) ?_
                        refine AL.nx ?_
                        refine AW.ret ?_
                        refine ret_and ?_
                        refine post_one rfl rfl ?_ (.inr rfl)
                        exfalso; first | omega | (simp at c552; done) | exact c552 ⟨rfl, rfl, rfl, rfl, rfl⟩ | exact absurd c552 (by simp)
                      · -- else
                        refine AW.skip ?_
                        refine nrm_and ?_
                        refine AW.rs ?_
                        refine AL.val rfl (.inl rfl) (HV.as rfl) ?_
                        refine AL.nx ?_
                        refine AW.rs ?_
                        refine AL.val rfl (.inl rfl) (HV.lda (cs := [.int .i64 (zI (sfC n p l) n), u150, .int .i64 (zI (sfC n p l) p), .int .i64 (zI (sfC n p l) (gsK p 3 (famG l) : Int)), v151]) rfl va31 (at_cells hb549 rfl)) ?_
                        refine AL.val rfl (.inl rfl) (HV.mv rfl) ?_
                        have hbz := (sf_len (n := n) (p := p) (l := l))
                        refine AL.w rfl (.inl rfl) (WV.call fn19 rfl (heldSc_ok (zI (sfC n p l) n) (zI (sfC n p l) p) (zI (sfC n p l) (gsK p 3 (famG l) : Int)) ho545.rd (rd_ofO ho546.rd) 1 (by omega) hbz.1 e354 e355 hbz.2 e356 e357)) ?_
                        rintro _ H553 ⟨rfl, hx554⟩
                        have q555 := Nat.le_trans q530 hx554.bd
                        have q556 := Nat.le_trans q531 hx554.bd
                        have q557 := Nat.le_trans q532 hx554.bd
                        have q558 := Nat.le_trans q533 hx554.bd
                        have q559 := Nat.le_trans q534 hx554.bd
                        have q560 := Nat.le_trans q535 hx554.bd
                        have q561 := Nat.le_trans q536 hx554.bd
                        have q562 := Nat.le_trans q537 hx554.bd
                        have X563 := Ext.trans X538 hx554
                        have X564 := Ext.trans X539 hx554
                        have X565 := Ext.trans X540 hx554
                        have X566 := Ext.trans X541 hx554
                        have X567 := Ext.trans X542 hx554
                        have X568 := Ext.trans X543 hx554
                        have X569 := Ext.trans X544 hx554
                        have ho570 := ho545.ext hx554
                        have ho571 := ho546.ext hx554
                        have hb572 := hb547.ext hx554
                        have hb573 := hb548.ext hx554
                        have hb574 := hb549.ext hx554
                        have hb575 := hb550.ext hx554
                        refine AL.val rfl (.inl rfl) (HV.as rfl) ?_
                        refine AL.nx ?_
                        refine AW.seq ?_
                        refine AW.rs ?_
                        refine AL.val rfl (.inl rfl) (HV.mv rfl) ?_
                        refine AL.val rfl (.inl rfl) (HV.lti rfl rfl) ?_
                        refine AL.nx ?_
                        refine AW.ifd rfl (fun c576 => ?_) (fun c576 => ?_)
                        · -- then
                          refine AW.rs ?_
                          refine AL.val rfl (.inl rfl) (HV.as rfl) ?_
                          refine AL.nx ?_
                          refine AW.ret ?_
                          refine ret_and ?_
                          refine post_one rfl rfl ?_ (.inr rfl)
                          exfalso; first | omega | (simp at c576; done) | exact c576 ⟨rfl, rfl, rfl, rfl, rfl⟩ | exact absurd c576 (by simp)
                        · -- else
                          refine AW.skip ?_
                          refine nrm_and ?_
                          refine AW.seq ?_
                          refine AW.rs ?_
                          refine AL.val rfl (.inl rfl) (HV.mv rfl) ?_
                          refine AL.val rfl (.inl rfl) (HV.mv rfl) ?_
                          refine AL.val rfl (.inl rfl) (HV.nei rfl rfl) ?_
                          refine AL.nx ?_
                          refine AW.ifd rfl (fun c577 => ?_) (fun c577 => ?_)
                          · -- then
                            refine AW.rs ?_
                            refine AL.val rfl (.inl rfl) (HV.as rfl) ?_
                            refine AL.nx ?_
                            refine AW.ret ?_
                            refine ret_and ?_
                            refine post_one rfl rfl ?_ (.inr rfl)
                            exfalso; first | omega | (simp at c577; done) | exact c577 ⟨rfl, rfl, rfl, rfl, rfl⟩ | exact absurd c577 (by simp)
                          · -- else
                            refine AW.skip ?_
                            refine nrm_and ?_
                            refine AW.rs ?_
                            refine AL.val rfl (.inl rfl) (HV.as rfl) ?_
                            refine AL.nx ?_
                            refine AW.ret ?_
                            refine post_one rfl rfl ?_ (.inr rfl)
                            exact ⟨rfl, X563⟩
                    · -- true
                      have c551_ : (!decide ((zI (sfC n p l) n) = (zI (sfC n p l) n) ∧ (zL (sfC n p l) (gsO p 3 (famG l))) = (zL (sfC n p l) (gsO p 3 (famG l))) ∧ (zI (sfC n p l) p) = (zI (sfC n p l) p) ∧ (zI (sfC n p l) (gsK p 3 (famG l) : Int)) = (zI (sfC n p l) (gsK p 3 (famG l) : Int)) ∧ (zL (sfC n p l) (gsL p 3 (famG l))) = (zL (sfC n p l) (gsL p 3 (famG l))))) = true := by rw [decide_eq_false c551]; rfl
                      rw [c551_]
                      refine AL.off rfl rfl (by decide) rfl ?_
                      refine AL.off rfl rfl (by decide) rfl ?_
                      refine AL.off rfl rfl (by decide) rfl ?_
                      refine AL.val rfl (.inl rfl) (HV.pickT rfl rfl) ?_
                      refine AL.nx ?_
                      refine AW.cond rfl (fun _ => ?_) (fun h => by cases h)
                      refine AW.rs ?_
                      refine AL.val rfl (.inl rfl) (HV.as rfl) ?_
                      refine AL.nx ?_
                      refine AW.ret ?_
                      refine ret_and ?_
                      refine post_one rfl rfl ?_ (.inr rfl)
                      exfalso; first | omega | (simp at c551; done) | exact c551 ⟨rfl, rfl, rfl, rfl, rfl⟩ | exact absurd c551 (by simp)
            · -- true
              have c347_ : (!decide ((zI (sfC n p l) n) = (zI (sfC n p l) n) ∧ (zL (sfC n p l) (gsO p 3 (famG l))) = (zL (sfC n p l) (gsO p 3 (famG l))) ∧ (zI (sfC n p l) p) = (zI (sfC n p l) p) ∧ (zI (sfC n p l) (gsK p 3 (famG l) : Int)) = (zI (sfC n p l) (gsK p 3 (famG l) : Int)) ∧ (zL (sfC n p l) (gsL p 3 (famG l))) = (zL (sfC n p l) (gsL p 3 (famG l))))) = true := by rw [decide_eq_false c347]; rfl
              rw [c347_]
              refine AL.off rfl rfl (by decide) rfl ?_
              refine AL.off rfl rfl (by decide) rfl ?_
              refine AL.off rfl rfl (by decide) rfl ?_
              refine AL.val rfl (.inl rfl) (HV.pickT rfl rfl) ?_
              refine AL.nx ?_
              refine AW.cond rfl (fun _ => ?_) (fun h => by cases h)
              refine AW.rs ?_
              refine AL.val rfl (.inl rfl) (HV.as rfl) ?_
              refine AL.nx ?_
              refine AW.ret ?_
              refine ret_and ?_
              refine post_one rfl rfl ?_ (.inr rfl)
              exfalso; first | omega | (simp at c347; done) | exact c347 ⟨rfl, rfl, rfl, rfl, rfl⟩ | exact absurd c347 (by simp)
    · -- true
      have c252_ : (!decide ((zI (sfC n p l) n) = (zI (sfC n p l) n) ∧ (zL (sfC n p l) (gsO p 3 (famG l))) = (zL (sfC n p l) (gsO p 3 (famG l))) ∧ (zI (sfC n p l) p) = (zI (sfC n p l) p) ∧ (zI (sfC n p l) (gsK p 3 (famG l) : Int)) = (zI (sfC n p l) (gsK p 3 (famG l) : Int)) ∧ (zL (sfC n p l) (gsL p 3 (famG l))) = (zL (sfC n p l) (gsL p 3 (famG l))))) = true := by rw [decide_eq_false c252]; rfl
      rw [c252_]
      refine AL.off rfl rfl (by decide) rfl ?_
      refine AL.off rfl rfl (by decide) rfl ?_
      refine AL.off rfl rfl (by decide) rfl ?_
      refine AL.val rfl (.inl rfl) (HV.pickT rfl rfl) ?_
      refine AL.nx ?_
      refine AW.cond rfl (fun _ => ?_) (fun h => by cases h)
      refine AW.rs ?_
      refine AL.val rfl (.inl rfl) (HV.as rfl) ?_
      refine AL.nx ?_
      refine AW.ret ?_
      refine ret_and ?_
      refine post_one rfl rfl ?_ (.inr rfl)
      exfalso; first | omega | (simp at c252; done) | exact c252 ⟨rfl, rfl, rfl, rfl, rfl⟩ | exact absurd c252 (by simp)
end Go.Proofs.Yticobjbjejpomaa.VC

