/- Walks. -/
import Derived.Test.YticobjbjejpomaaZF24
set_option linter.unusedVariables false
set_option linter.unusedSimpArgs false
namespace Go.Proofs.Yticobjbjejpomaa.VC
open Go Go.RowKit
theorem lgC_ok {n p : Int} {d : Nat} {z : GT d} (h : lgC n p d z = 0) : okSc n (gsO p d z) p (gsK p d z : Int) (gsL p d z) := by
  unfold lgC at h
  split at h
  · omega
  · split at h
    · assumption
    · omega
theorem sgC_ok {n p : Int} {d : Nat} {z : GT d} (h : sgC n p d z = 0) : okSc n (gsO p d z) p (gsK p d z : Int) (gsL p d z) := by
  unfold sgC at h
  split at h
  · split at h
    · exact lgC_ok h
    · omega
  · omega
theorem sc_len {n : Int} {o : List Int} {p k : Int} {l : List (List Int)} {C : Int} (hk : C = 0 → okSc n o p k l) : (zL C o).length ≤ 1048576 ∧ (zL C l).length ≤ 1048576 ∧ ∀ x ∈ zL C l, x.length ≤ 1048576 := by
  by_cases h : C = 0
  · rw [zL_yes h, zL_yes h]
    have hF := okSc_f (hk h)
    have a1 := hF.R
    have a2 := hF.ol
    have a3 := hF.k1
    refine ⟨by omega, by omega, fun x hx => ?_⟩
    obtain ⟨i, hi, rfl⟩ := List.getElem_of_mem hx
    have := (hF.r i hi).1
    have e : l.getD i [] = l[i] := by simp [hi]
    rw [e] at this
    omega
  · rw [zL_no h, zL_no h]
    exact ⟨Nat.zero_le _, Nat.zero_le _, fun x hx => by cases hx⟩
theorem sg_len {n p : Int} {d : Nat} {z : GT d} : (zL (sgC n p d z) (gsO p d z)).length ≤ 1048576 ∧ (zL (sgC n p d z) (gsL p d z)).length ≤ 1048576 ∧ ∀ x ∈ zL (sgC n p d z) (gsL p d z), x.length ≤ 1048576 := sc_len (fun h => sgC_ok h)
variable {W : World} {H : Hp}

set_option maxRecDepth 100000 in
theorem markGate_ok {d : Nat} {ok : Nat → Prop} {z : GT d} {a l : Int} {v : Value} (hK : (kGf d).rd W H ok z [.int .i64 a, .int .i64 l, v]) (hW : ∀ b, ok b → W.heap.size ≤ b) (q : Int) (hq : 0 ≤ q ∧ q + 2 * (szG d z : Int) ≤ 8000000) : ACalls Try.prog W 41 #[.agg #[.int .i64 a, .int .i64 l, v], .int .i64 q] H (fun r H' => (∃ q', r = .int .i64 q' ∧ q ≤ q') ∧ But ok H H') := by
  refine ACalls.of (args := [.agg #[.int .i64 a, .int .i64 l, v], .int .i64 q]) Try.func41 rfl rfl ?_
  have X0 := Ext.refl H
  obtain ⟨d1, ks1, hd1, hk1, hs1⟩ := kGf_kids hK
  have isl0 := hk1.isSl
  refine AW.rs ?_
  refine AL.w rfl (.inl rfl) (WV.bx rfl rfl) ?_
  rintro _ H2 ⟨b1, rfl, hx3, hn4, hb5⟩
  have o6 := Nat.le_trans X0.bd hn4
  have X7 := Ext.trans X0 hx3
  have X8 := Ext.refl H2
  refine AL.val rfl (.inl rfl) (HV.as rfl) ?_
  refine AL.nx ?_
  refine AW.rs ?_
  refine AL.val rfl (.inl rfl) (HV.fa fl61_2 rfl) ?_
  refine AL.val rfl (.inl rfl) (HV.ld rfl va59 (at_cell_add (j := 2) hb5 rfl)) ?_
  refine AL.val rfl (.inl rfl) (HV.mv rfl) ?_
  refine AL.w rfl (.inl rfl) (WV.call fn110 rfl (markGateS_all d1 (hk1.ext X7) (Mq.refl _ _ _) hW q (by omega))) ?_
  rintro _ H9 ⟨rfl, hm10, hB11⟩
  refine AL.val rfl (.inl rfl) (HV.as rfl) ?_
  refine AL.nx ?_
  refine AW.rs ?_
  refine AL.val rfl (.inl rfl) (HV.mv rfl) ?_
  refine AL.val rfl (.inl rfl) (HV.as rfl) ?_
  refine AL.nx ?_
  refine AW.ret ?_
  refine post_one rfl rfl ?_ (.inr rfl)
  exact ⟨⟨_, rfl, by omega⟩, But.trans (Ext.but X7 _) hB11⟩

set_option maxRecDepth 100000 in
set_option maxHeartbeats 4000000 in
theorem law_SchemeOfGate {d : Nat} {ok : Nat → Prop} {z : GT d} {a l : Int} {v : Value} (hK : (kG d).rd W H ok z [.int .i64 a, .int .i64 l, v]) (p n : Int) (hW : W.heap.size ≤ H.bd) : ACalls Try.prog W 10 #[.int .i64 p, .int .i64 n, .agg #[.int .i64 a, .int .i64 l, v]] H (fun r H' => r = .bool true ∧ Ext H H') := by
  refine ACalls.of (args := [.int .i64 p, .int .i64 n, .agg #[.int .i64 a, .int .i64 l, v]]) Try.func10 rfl rfl ?_
  have X0 := Ext.refl H
  obtain ⟨_, isl0⟩ := gk_isl hK
  refine AW.rs ?_
  refine AL.w rfl (.inl rfl) (WV.bx rfl rfl) ?_
  rintro _ H2 ⟨b1, rfl, hx3, hn4, hb5⟩
  have o6 := Nat.le_trans X0.bd hn4
  have X7 := Ext.trans X0 hx3
  have X8 := Ext.refl H2
  refine AL.val rfl (.inl rfl) (HV.as rfl) ?_
  refine AL.nx ?_
  refine AW.rs ?_
  refine AL.val rfl (.inl rfl) (HV.as rfl) ?_
  refine AL.nx ?_
  refine AW.rs ?_
  refine AL.val rfl (.inl rfl) (HV.lda (cs := [.int .i64 a, .int .i64 l, v]) rfl va56 (at_cells hb5 rfl)) ?_
  refine AL.val rfl (.inl rfl) (HV.mv rfl) ?_
  refine AL.w rfl (.inl rfl) (WV.call fn36 rfl (szGate_all d (Kd.ext (kG d) hK X7) 1048576 (by omega))) ?_
  rintro _ H9 ⟨⟨q11, rfl, ha12, hb13, he14⟩, hx10⟩
  have X15 := Ext.trans X7 hx10
  have X16 := Ext.trans X8 hx10
  have hb17 := hb5.ext hx10
  refine AL.val rfl (.inl rfl) (HV.as rfl) ?_
  refine AL.nx ?_
  refine AW.seq ?_
  refine AW.rs ?_
  refine AL.val rfl (.inl rfl) (HV.mv rfl) ?_
  refine AL.val rfl (.inl rfl) (HV.lti rfl rfl) ?_
  refine AL.nx ?_
  refine AW.ifd rfl (fun c18 => ?_) (fun c18 => ?_)
  · -- then
    refine AW.rs ?_
    refine AL.val rfl (.inl rfl) (HV.as rfl) ?_
    refine AL.nx ?_
    refine AW.ret ?_
    refine ret_and ?_
    refine post_one rfl rfl ?_ (.inr rfl)
    exact ⟨rfl, X15⟩
  · -- else
    refine AW.skip ?_
    refine nrm_and ?_
    refine AW.rs ?_
    have hsz := he14 (by omega)
    refine AL.val rfl (.inl rfl) (HV.mv rfl) ?_
    refine AL.val rfl (.inl rfl) (HV.mv rfl) ?_
    refine AL.val rfl (.inl rfl) (HV.lda (cs := [.int .i64 a, .int .i64 l, v]) rfl va56 (at_cells hb17 rfl)) ?_
    have X19 := Ext.refl H9
    refine AL.w rfl (.inl rfl) (WV.call fn38 rfl (toGate_all d (Kd.ext (kG d) hK X15) (by omega))) ?_
    rintro _ H20 ⟨⟨u22, rfl, hk23⟩, hx21⟩
    have X25 := Ext.trans X15 hx21
    have X26 := Ext.trans X16 hx21
    have X27 := Ext.trans X19 hx21
    have hb28 := hb17.ext hx21
    have X29 := Ext.refl H20
    obtain ⟨_, isl24⟩ := gk_isl hk23
    have y30 := hb28.lt
    have o31 := X25.bd
    have o32 := X26.bd
    have o33 := X27.bd
    have o34 := X29.bd
    refine AL.w rfl (.inl rfl) (WV.call fn37 rfl (specSG_ok hk23 p n (Nat.le_trans hW X25.bd))) ?_
    rintro _ H38 ⟨⟨u35, v36, la37, rfl, ho40, ho41⟩, hx39⟩
    have X44 := Ext.trans X25 hx39
    have X45 := Ext.trans X26 hx39
    have X46 := Ext.trans X27 hx39
    have X47 := Ext.trans X29 hx39
    have hb48 := hb28.ext hx39
    have X49 := Ext.refl H38
    have hr42 := ho40.rd
    have hr43 := rd_ofO ho41.rd
    refine AL.val rfl (.inl rfl) (HV.mv rfl) ?_
    refine AL.val rfl (.inl rfl) (HV.ex rfl rfl) ?_
    refine AL.val rfl (.inl rfl) (HV.ex rfl rfl) ?_
    refine AL.w rfl (.inl rfl) (WV.al ze31 rfl) ?_
    rintro _ H51 ⟨b50, rfl, hx52, hn53, hb54⟩
    have o55 := Nat.le_trans X44.bd hn53
    have o56 := Nat.le_trans X45.bd hn53
    have o57 := Nat.le_trans X46.bd hn53
    have o58 := Nat.le_trans X47.bd hn53
    have o59 := Nat.le_trans X49.bd hn53
    have ne60 : b1 ≠ b50 := by have := hb48.lt; omega
    have X61 := Ext.trans X44 hx52
    have X62 := Ext.trans X45 hx52
    have X63 := Ext.trans X46 hx52
    have X64 := Ext.trans X47 hx52
    have X65 := Ext.trans X49 hx52
    have hb66 := hb48.ext hx52
    have X67 := Ext.refl H51
    refine AL.w0 (.inl rfl) (WV.st rfl rfl va31 rfl hb54 (Nat.le_of_ble_eq_true rfl) (one_cons rfl (one_cons (sl_one1 (hr42.ext X65).isSl) (one_cons rfl (one_cons rfl (one_cons (sl_one1 (hr43.ext X65).isSl) one_nil)))))) ?_
    rintro _ H68 ⟨hx69, hb70⟩
    have X71 := Ext.thru X61 hx69 (fun z_ hz_ => by rw [hz_]; exact o55)
    have X72 := Ext.thru X62 hx69 (fun z_ hz_ => by rw [hz_]; exact o56)
    have X73 := Ext.thru X63 hx69 (fun z_ hz_ => by rw [hz_]; exact o57)
    have X74 := Ext.thru X64 hx69 (fun z_ hz_ => by rw [hz_]; exact o58)
    have X75 := Ext.thru X65 hx69 (fun z_ hz_ => by rw [hz_]; exact o59)
    have q77 := Nat.le_trans X67.bd hx69.bd
    have hb78 := hb66.but hx69 ne60
    have hb79 : At W H68 b50 ⟨31, [.int .i64 (zI (sgC n p d z) n), u35, .int .i64 (zI (sgC n p d z) p), .int .i64 (zI (sgC n p d z) (gsK p d z : Int)), v36], 5⟩ := hb70
    refine AL.val rfl (.inl rfl) (HV.as rfl) ?_
    refine AL.nx ?_
    refine AW.rs ?_
    refine AL.val rfl (.inl rfl) (HV.lda (cs := [.int .i64 a, .int .i64 l, v]) rfl va56 (at_cells hb78 rfl)) ?_
    have X80 := Ext.refl H68
    have y88 := hb78.lt
    have y89 := hb79.lt
    have o90 := X71.bd
    have o91 := X72.bd
    have o92 := X73.bd
    have o93 := X74.bd
    have o94 := X75.bd
    have o95 := X80.bd
    have hWc := Nat.le_trans hW X71.bd
    refine AL.w rfl (.inl rfl) (WV.call fn38 rfl (toGateF_all d (Kd.ext (kG d) hK X71) (by omega))) ?_
    rintro _ H81 ⟨⟨u83, rfl, hk84⟩, hx82⟩
    have q96 := Nat.le_trans q77 hx82.bd
    have X97 := Ext.trans X71 hx82
    have X98 := Ext.trans X72 hx82
    have X99 := Ext.trans X73 hx82
    have X100 := Ext.trans X74 hx82
    have X101 := Ext.trans X75 hx82
    have X102 := Ext.trans X80 hx82
    have hb103 := hb78.ext hx82
    have hb104 := hb79.ext hx82
    have X105 := Ext.refl H81
    have hk85 := (kGf d).okk (ok' := fun b => H68.bd ≤ b ∧ b < H81.bd) (fun b hb hlt => ⟨hb, hlt⟩) hk84
    have hk86 := gf_up hk85
    obtain ⟨_, isl87⟩ := gk_isl hk86
    refine AL.w rfl (.inl rfl) (WV.al ze61 rfl) ?_
    rintro _ H107 ⟨b106, rfl, hx108, hn109, hb110⟩
    have o111 := Nat.le_trans X97.bd hn109
    have o112 := Nat.le_trans X98.bd hn109
    have o113 := Nat.le_trans X99.bd hn109
    have o114 := Nat.le_trans X100.bd hn109
    have o115 := Nat.le_trans X101.bd hn109
    have o116 := Nat.le_trans X102.bd hn109
    have o117 := Nat.le_trans X105.bd hn109
    have o118 := Nat.le_trans q96 hn109
    have ne119 : b1 ≠ b106 := by have := hb103.lt; omega
    have ne120 : b50 ≠ b106 := by have := hb104.lt; omega
    have q121 := Nat.le_trans q96 hx108.bd
    have X122 := Ext.trans X97 hx108
    have X123 := Ext.trans X98 hx108
    have X124 := Ext.trans X99 hx108
    have X125 := Ext.trans X100 hx108
    have X126 := Ext.trans X101 hx108
    have X127 := Ext.trans X102 hx108
    have X128 := Ext.trans X105 hx108
    have hb129 := hb103.ext hx108
    have hb130 := hb104.ext hx108
    have X131 := Ext.refl H107
    refine AL.w0 (.inl rfl) (WV.st rfl rfl va61 rfl hb110 (Nat.le_of_ble_eq_true rfl) (one_cons rfl (one_cons rfl (one_cons (sl_one1 (isl87.ext X128).isSl) one_nil)))) ?_
    rintro _ H132 ⟨hx133, hb134⟩
    have q135 := Nat.le_trans q121 hx133.bd
    have X136 := Ext.thru X122 hx133 (fun z_ hz_ => by rw [hz_]; exact o111)
    have X137 := Ext.thru X123 hx133 (fun z_ hz_ => by rw [hz_]; exact o112)
    have X138 := Ext.thru X124 hx133 (fun z_ hz_ => by rw [hz_]; exact o113)
    have X139 := Ext.thru X125 hx133 (fun z_ hz_ => by rw [hz_]; exact o114)
    have X140 := Ext.thru X126 hx133 (fun z_ hz_ => by rw [hz_]; exact o115)
    have X141 := Ext.thru X127 hx133 (fun z_ hz_ => by rw [hz_]; exact o116)
    have X142 := Ext.thru X128 hx133 (fun z_ hz_ => by rw [hz_]; exact o117)
    have q144 := Nat.le_trans X131.bd hx133.bd
    have hb145 := hb129.but hx133 ne119
    have hb146 := hb130.but hx133 ne120
    have hb147 : At W H132 b106 ⟨61, [.int .i64 a, .int .i64 l, u83], 3⟩ := hb134
    refine AL.nx ?_
    refine AW.rs ?_
    refine AL.val rfl (.inl rfl) (HV.mv rfl) ?_
    refine AL.val rfl (.inl rfl) (HV.mv rfl) ?_
    refine AL.val rfl (.inl rfl) (HV.lda (cs := [.int .i64 a, .int .i64 l, u83]) rfl va61 (at_cells hb147 rfl)) ?_
    have X148 := Ext.refl H132
    have y149 := hb145.lt
    have y150 := hb146.lt
    have y151 := hb147.lt
    have o152 := X136.bd
    have o153 := X137.bd
    have o154 := X138.bd
    have o155 := X139.bd
    have o156 := X140.bd
    have o157 := X141.bd
    have o158 := X142.bd
    have o159 := X148.bd
    refine AL.w rfl (.inl rfl) (WV.call fn39 rfl (implSG_ok (Kd.ext (kG d) hk86 X142) p n (Nat.le_trans hW X136.bd) (by omega))) ?_
    rintro _ H163 ⟨⟨u160, v161, la162, rfl, ho165, ho166⟩, hx164⟩
    have q169 := Nat.le_trans q135 hx164.bd
    have q170 := Nat.le_trans q144 hx164.bd
    have X171 := Ext.trans X136 hx164
    have X172 := Ext.trans X137 hx164
    have X173 := Ext.trans X138 hx164
    have X174 := Ext.trans X139 hx164
    have X175 := Ext.trans X140 hx164
    have X176 := Ext.trans X141 hx164
    have X177 := Ext.trans X142 hx164
    have X178 := Ext.trans X148 hx164
    have hb179 := hb145.ext hx164
    have hb180 := hb146.ext hx164
    have hb181 := hb147.ext hx164
    have X182 := Ext.refl H163
    have hr167 := ho165.okk (ok' := fun b => (H132.bd ≤ b ∧ la162 b = 0) ∧ b < H163.bd) (fun b hb hlt => ⟨hb, hlt⟩)
    have hr168 := ho166.okk (ok' := fun b => (H132.bd ≤ b ∧ la162 b = 1) ∧ b < H163.bd) (fun b hb hlt => ⟨hb, hlt⟩)
    refine AL.val rfl (.inl rfl) (HV.mv rfl) ?_
    refine AL.val rfl (.inl rfl) (HV.ex rfl rfl) ?_
    refine AL.val rfl (.inl rfl) (HV.ex rfl rfl) ?_
    refine AL.w rfl (.inl rfl) (WV.al ze31 rfl) ?_
    rintro _ H186 ⟨b185, rfl, hx187, hn188, hb189⟩
    have o190 := Nat.le_trans X171.bd hn188
    have o191 := Nat.le_trans X172.bd hn188
    have o192 := Nat.le_trans X173.bd hn188
    have o193 := Nat.le_trans X174.bd hn188
    have o194 := Nat.le_trans X175.bd hn188
    have o195 := Nat.le_trans X176.bd hn188
    have o196 := Nat.le_trans X177.bd hn188
    have o197 := Nat.le_trans X178.bd hn188
    have o198 := Nat.le_trans X182.bd hn188
    have o199 := Nat.le_trans q169 hn188
    have o200 := Nat.le_trans q170 hn188
    have ne201 : b1 ≠ b185 := by have := hb179.lt; omega
    have ne202 : b50 ≠ b185 := by have := hb180.lt; omega
    have ne203 : b106 ≠ b185 := by have := hb181.lt; omega
    have q204 := Nat.le_trans q169 hx187.bd
    have q205 := Nat.le_trans q170 hx187.bd
    have X206 := Ext.trans X171 hx187
    have X207 := Ext.trans X172 hx187
    have X208 := Ext.trans X173 hx187
    have X209 := Ext.trans X174 hx187
    have X210 := Ext.trans X175 hx187
    have X211 := Ext.trans X176 hx187
    have X212 := Ext.trans X177 hx187
    have X213 := Ext.trans X178 hx187
    have X214 := Ext.trans X182 hx187
    have ho215 := hr167.ext hx187
    have ho216 := hr168.ext hx187
    have hb217 := hb179.ext hx187
    have hb218 := hb180.ext hx187
    have hb219 := hb181.ext hx187
    have X220 := Ext.refl H186
    refine AL.w0 (.inl rfl) (WV.st rfl rfl va31 rfl hb189 (Nat.le_of_ble_eq_true rfl) (one_cons rfl (one_cons (sl_one1 ho215.rd.isSl) (one_cons rfl (one_cons rfl (one_cons (sl_one1 (rd_ofO ho216.rd).isSl) one_nil)))))) ?_
    rintro _ H221 ⟨hx222, hb223⟩
    have q224 := Nat.le_trans q204 hx222.bd
    have q225 := Nat.le_trans q205 hx222.bd
    have X226 := Ext.thru X206 hx222 (fun z_ hz_ => by rw [hz_]; exact o190)
    have X227 := Ext.thru X207 hx222 (fun z_ hz_ => by rw [hz_]; exact o191)
    have X228 := Ext.thru X208 hx222 (fun z_ hz_ => by rw [hz_]; exact o192)
    have X229 := Ext.thru X209 hx222 (fun z_ hz_ => by rw [hz_]; exact o193)
    have X230 := Ext.thru X210 hx222 (fun z_ hz_ => by rw [hz_]; exact o194)
    have X231 := Ext.thru X211 hx222 (fun z_ hz_ => by rw [hz_]; exact o195)
    have X232 := Ext.thru X212 hx222 (fun z_ hz_ => by rw [hz_]; exact o196)
    have X233 := Ext.thru X213 hx222 (fun z_ hz_ => by rw [hz_]; exact o197)
    have X234 := Ext.thru X214 hx222 (fun z_ hz_ => by rw [hz_]; exact o198)
    have q236 := Nat.le_trans X220.bd hx222.bd
    have ho237 := ho215.but hx222 (fun b hb _ e => by have hb' : (H132.bd ≤ b ∧ la162 b = 0) ∧ b < H163.bd := hb; have e' : b = b185 := e; omega) (fun z_ hz_ => by rw [hz_]; exact hb189.w)
    have ho238 := ho216.but hx222 (fun b hb _ e => by have hb' : (H132.bd ≤ b ∧ la162 b = 1) ∧ b < H163.bd := hb; have e' : b = b185 := e; omega) (fun z_ hz_ => by rw [hz_]; exact hb189.w)
    have hb239 := hb217.but hx222 ne201
    have hb240 := hb218.but hx222 ne202
    have hb241 := hb219.but hx222 ne203
    have hb242 : At W H221 b185 ⟨31, [.int .i64 (zI (sgC n p d z) n), u160, .int .i64 (zI (sgC n p d z) p), .int .i64 (zI (sgC n p d z) (gsK p d z : Int)), v161], 5⟩ := hb223
    refine AL.val rfl (.inl rfl) (HV.as rfl) ?_
    refine AL.nx ?_
    refine AW.seq ?_
    refine AW.rs ?_
    refine AL.val rfl (.inl rfl) (HV.lda (cs := [.int .i64 (zI (sgC n p d z) n), u160, .int .i64 (zI (sgC n p d z) p), .int .i64 (zI (sgC n p d z) (gsK p d z : Int)), v161]) rfl va31 (at_cells hb242 rfl)) ?_
    refine AL.val rfl (.inl rfl) (HV.lda (cs := [.int .i64 (zI (sgC n p d z) n), u35, .int .i64 (zI (sgC n p d z) p), .int .i64 (zI (sgC n p d z) (gsK p d z : Int)), v36]) rfl va31 (at_cells hb240 rfl)) ?_
    refine AL.w rfl (.inl rfl) (WV.call fn17 rfl (eqSc_ok (zI (sgC n p d z) n) (zI (sgC n p d z) p) (zI (sgC n p d z) (gsK p d z : Int)) (zI (sgC n p d z) n) (zI (sgC n p d z) p) (zI (sgC n p d z) (gsK p d z : Int)) ho237.rd (rd_ofO ho238.rd) (hr42.ext X230) (hr43.ext X230))) ?_
    rintro _ H243 ⟨rfl, hx244⟩
    have q245 := Nat.le_trans q224 hx244.bd
    have q246 := Nat.le_trans q225 hx244.bd
    have q247 := Nat.le_trans q236 hx244.bd
    have X248 := Ext.trans X226 hx244
    have X249 := Ext.trans X227 hx244
    have X250 := Ext.trans X228 hx244
    have X251 := Ext.trans X229 hx244
    have X252 := Ext.trans X230 hx244
    have X253 := Ext.trans X231 hx244
    have X254 := Ext.trans X232 hx244
    have X255 := Ext.trans X233 hx244
    have X256 := Ext.trans X234 hx244
    have ho257 := ho237.ext hx244
    have ho258 := ho238.ext hx244
    have hb259 := hb239.ext hx244
    have hb260 := hb240.ext hx244
    have hb261 := hb241.ext hx244
    have hb262 := hb242.ext hx244
    refine AL.val rfl (.inl rfl) (HV.not rfl) ?_
    refine AL.val rfl (.inl rfl) (HV.mv rfl) ?_
    by_cases c263 : (zI (sgC n p d z) n) = (zI (sgC n p d z) n) ∧ (zL (sgC n p d z) (gsO p d z)) = (zL (sgC n p d z) (gsO p d z)) ∧ (zI (sgC n p d z) p) = (zI (sgC n p d z) p) ∧ (zI (sgC n p d z) (gsK p d z : Int)) = (zI (sgC n p d z) (gsK p d z : Int)) ∧ (zL (sgC n p d z) (gsL p d z)) = (zL (sgC n p d z) (gsL p d z))
    · -- false
      have c263_ : (!decide ((zI (sgC n p d z) n) = (zI (sgC n p d z) n) ∧ (zL (sgC n p d z) (gsO p d z)) = (zL (sgC n p d z) (gsO p d z)) ∧ (zI (sgC n p d z) p) = (zI (sgC n p d z) p) ∧ (zI (sgC n p d z) (gsK p d z : Int)) = (zI (sgC n p d z) (gsK p d z : Int)) ∧ (zL (sgC n p d z) (gsL p d z)) = (zL (sgC n p d z) (gsL p d z)))) = false := by rw [decide_eq_true c263]; rfl
      rw [c263_]
      refine AL.val rfl (.inr ⟨_, _, _, rfl, rfl, rfl⟩) (HV.mv rfl) ?_
      refine AL.val rfl (.inr ⟨_, _, _, rfl, rfl, rfl⟩) (HV.mv rfl) ?_
      refine AL.val rfl (.inr ⟨_, _, _, rfl, rfl, rfl⟩) (HV.nei rfl rfl) ?_
      refine AL.val rfl (.inl rfl) (HV.pickF rfl rfl) ?_
      refine AL.nx ?_
      refine AW.ifd rfl (fun c264 => ?_) (fun c264 => ?_)
      · -- then
        refine AW.rs ?_
        refine AL.val rfl (.inl rfl) (HV.as rfl) ?_
        refine AL.nx ?_
        refine AW.ret ?_
        refine ret_and ?_
        refine post_one rfl rfl ?_ (.inr rfl)
        exfalso; first | omega | (simp at c264; done) | exact c264 ⟨rfl, rfl, rfl, rfl, rfl⟩ | exact absurd c264 (by simp)
      · -- else
        refine AW.skip ?_
        refine nrm_and ?_
        refine AW.seq ?_
        refine AW.seq ?_
        refine AW.draw' [0, 0, 2, 7, 15] mixed (by rfl) ?_
        refine Dr.read 0 _ 49 _ rfl rfl rfl rfl rfl (RV.of (by intro _ _ h; cases h) (.inl rfl) (fun _ xd => HV.lda (cs := [.int .i64 a, .int .i64 l, u83]) rfl va61 (fun j u hu => rdc_ext xd ((at_cells hb261 rfl) j u hu)))) ?_
        refine Dr.read 1 _ 50 _ rfl rfl rfl rfl rfl (RV.of (by intro _ _ h; cases h) (.inl rfl) (fun _ xd => HV.lda (cs := [.int .i64 a, .int .i64 l, v]) rfl va56 (fun j u hu => rdc_ext xd ((at_cells hb259 rfl) j u hu)))) ?_
        have X265 := Ext.refl H243
        refine Dr.eff 2 _ _ rfl (by intro d h; cases h; exact ⟨rfl, rfl⟩) rfl rfl rfl (EC.of (by intro _ _ h; cases h) (.inl rfl) (WV.call fn38 rfl (toGate_all d (Kd.ext (kG d) hK X248) (by omega)))) (fun v H' h => .inl (h.2)) ?_
        rintro _ H266 ⟨⟨u268, rfl, hk269⟩, hx267⟩
        have q271 := Nat.le_trans q245 hx267.bd
        have q272 := Nat.le_trans q246 hx267.bd
        have q273 := Nat.le_trans q247 hx267.bd
        have X274 := Ext.trans X248 hx267
        have X275 := Ext.trans X249 hx267
        have X276 := Ext.trans X250 hx267
        have X277 := Ext.trans X251 hx267
        have X278 := Ext.trans X252 hx267
        have X279 := Ext.trans X253 hx267
        have X280 := Ext.trans X254 hx267
        have X281 := Ext.trans X255 hx267
        have X282 := Ext.trans X256 hx267
        have X283 := Ext.trans X265 hx267
        have ho284 := ho257.ext hx267
        have ho285 := ho258.ext hx267
        have hb286 := hb259.ext hx267
        have hb287 := hb260.ext hx267
        have hb288 := hb261.ext hx267
        have hb289 := hb262.ext hx267
        have X290 := Ext.refl H266
        obtain ⟨_, isl270⟩ := gk_isl hk269
        refine Dr.eff 3 _ _ rfl (by intro d h; cases h; exact ⟨rfl, rfl⟩) rfl rfl rfl (EC.of (by intro _ _ h; cases h) (.inl rfl) (WV.call fn40 rfl (eqGate_all d (Kd.ext (kG d) hk86 X280) hk269))) (fun v H' h => .inl (h.2)) ?_
        rintro _ H291 ⟨rfl, hx292⟩
        have q293 := Nat.le_trans q271 hx292.bd
        have q294 := Nat.le_trans q272 hx292.bd
        have q295 := Nat.le_trans q273 hx292.bd
        have X296 := Ext.trans X274 hx292
        have X297 := Ext.trans X275 hx292
        have X298 := Ext.trans X276 hx292
        have X299 := Ext.trans X277 hx292
        have X300 := Ext.trans X278 hx292
        have X301 := Ext.trans X279 hx292
        have X302 := Ext.trans X280 hx292
        have X303 := Ext.trans X281 hx292
        have X304 := Ext.trans X282 hx292
        have X305 := Ext.trans X283 hx292
        have X306 := Ext.trans X290 hx292
        have ho307 := ho284.ext hx292
        have ho308 := ho285.ext hx292
        have hb309 := hb286.ext hx292
        have hb310 := hb287.ext hx292
        have hb311 := hb288.ext hx292
        have hb312 := hb289.ext hx292
        refine Dr.read 4 _ 53 _ rfl rfl rfl rfl rfl (RV.of (by intro _ _ h; cases h) (.inl rfl) (fun _ xd => HV.not rfl)) ?_
        refine Dr.fin rfl ?_
        refine nrm_and ?_
        refine AW.cond rfl (fun c313 => ?_) (fun c313 => ?_)
        · -- then
          refine AW.rs ?_
          refine AL.val rfl (.inl rfl) (HV.as rfl) ?_
          refine AL.nx ?_
          refine AW.ret ?_
          refine ret_and ?_
          refine post_one rfl rfl ?_ (.inr rfl)
          exfalso; first | omega | (simp at c313; done) | exact c313 ⟨rfl, rfl, rfl, rfl, rfl⟩ | exact absurd c313 (by simp)
        · -- else
          refine AW.skip ?_
          refine nrm_and ?_
          refine AW.rs ?_
          refine AL.val rfl (.inl rfl) (HV.as rfl) ?_
          refine AL.nx ?_
          refine AW.rs ?_
          refine AL.val rfl (.inl rfl) (HV.lda (cs := [.int .i64 a, .int .i64 l, u83]) rfl va61 (at_cells hb311 rfl)) ?_
          refine AL.val rfl (.inl rfl) (HV.mv rfl) ?_
          refine AL.w rfl (.inl rfl) (WV.call fn41 rfl (markGate_ok (Kd.ext (kGf d) hk85 X302) (fun b hb => Nat.le_trans hWc hb.1) 1 (by omega))) ?_
          rintro _ H314 ⟨⟨q315, rfl, hq316⟩, hx317⟩
          have q318 := Nat.le_trans q293 hx317.bd
          have q319 := Nat.le_trans q294 hx317.bd
          have q320 := Nat.le_trans q295 hx317.bd
          have X321 := Ext.thru X296 hx317 (fun b hb => Nat.le_trans o90 hb.1)
          have X322 := Ext.thru X297 hx317 (fun b hb => Nat.le_trans o91 hb.1)
          have X323 := Ext.thru X298 hx317 (fun b hb => Nat.le_trans o92 hb.1)
          have X324 := Ext.thru X299 hx317 (fun b hb => Nat.le_trans o93 hb.1)
          have X325 := Ext.thru X300 hx317 (fun b hb => Nat.le_trans o94 hb.1)
          have X326 := Ext.thru X301 hx317 (fun b hb => Nat.le_trans o95 hb.1)
          have q328 := Nat.le_trans X302.bd hx317.bd
          have q330 := Nat.le_trans X303.bd hx317.bd
          have q332 := Nat.le_trans X304.bd hx317.bd
          have q334 := Nat.le_trans X305.bd hx317.bd
          have q336 := Nat.le_trans X306.bd hx317.bd
          have ho337 := ho307.but hx317 (fun b hb _ e => by have h1 : (H132.bd ≤ b ∧ la162 b = 0) ∧ b < H163.bd := hb; have h2 : H68.bd ≤ b ∧ b < H81.bd := e; omega) (fun b hb => by have h2 : H68.bd ≤ b ∧ b < H81.bd := hb; omega)
          have ho338 := ho308.but hx317 (fun b hb _ e => by have h1 : (H132.bd ≤ b ∧ la162 b = 1) ∧ b < H163.bd := hb; have h2 : H68.bd ≤ b ∧ b < H81.bd := e; omega) (fun b hb => by have h2 : H68.bd ≤ b ∧ b < H81.bd := hb; omega)
          have hb339 := hb309.but hx317 (fun e => by have q : H68.bd ≤ b1 ∧ b1 < H81.bd := e; omega)
          have hb340 := hb310.but hx317 (fun e => by have q : H68.bd ≤ b50 ∧ b50 < H81.bd := e; omega)
          have hb342 := hb312.but hx317 (fun e => by have q : H68.bd ≤ b185 ∧ b185 < H81.bd := e; omega)
          refine AL.val rfl (.inl rfl) (HV.as rfl) ?_
          refine AL.nx ?_
          refine AW.seq ?_
          refine AW.rs ?_
          refine AL.val rfl (.inl rfl) (HV.mv rfl) ?_
          refine AL.val rfl (.inl rfl) (HV.lti rfl rfl) ?_
          refine AL.val rfl (.inl rfl) (HV.mv rfl) ?_
          by_cases c343 : q315 < 0
          · -- true
            have c343_ : decide (q315 < 0) = true := decide_eq_true c343
            rw [c343_]
            refine AL.off rfl rfl (by decide) rfl ?_
            refine AL.off rfl rfl (by decide) rfl ?_
            refine AL.off rfl rfl (by decide) rfl ?_
            refine AL.off rfl rfl (by decide) rfl ?_
            refine AL.val rfl (.inl rfl) (HV.pickT rfl rfl) ?_
            refine AL.val rfl (.inl rfl) (HV.mv rfl) ?_
            refine AL.off rfl rfl (by decide) rfl ?_
            refine AL.off rfl rfl (by decide) rfl ?_
            refine AL.off rfl rfl (by decide) rfl ?_
            refine AL.val rfl (.inl rfl) (HV.pickT rfl rfl) ?_
            refine AL.nx ?_
            refine AW.cond rfl (fun _ => ?_) (fun h => by cases h)
            refine AW.rs ?_
            refine AL.val rfl (.inl rfl) (HV.as rfl) ?_
            refine AL.nx ?_
            refine AW.ret ?_
            refine ret_and ?_
            refine post_one rfl rfl ?_ (.inr rfl)
            exfalso; first | omega | (simp at c343; done) | exact c343 ⟨rfl, rfl, rfl, rfl, rfl⟩ | exact absurd c343 (by simp)
          · -- false
            have c343_ : decide (q315 < 0) = false := decide_eq_false c343
            rw [c343_]
            refine AL.val rfl (.inr ⟨_, _, _, rfl, rfl, rfl⟩) (HV.lda (cs := [.int .i64 (zI (sgC n p d z) n), u160, .int .i64 (zI (sgC n p d z) p), .int .i64 (zI (sgC n p d z) (gsK p d z : Int)), v161]) rfl va31 (at_cells hb342 rfl)) ?_
            refine AL.val rfl (.inr ⟨_, _, _, rfl, rfl, rfl⟩) (HV.lda (cs := [.int .i64 (zI (sgC n p d z) n), u35, .int .i64 (zI (sgC n p d z) p), .int .i64 (zI (sgC n p d z) (gsK p d z : Int)), v36]) rfl va31 (at_cells hb340 rfl)) ?_
            refine AL.w rfl (.inr ⟨_, _, _, rfl, rfl, rfl⟩) (WV.call fn17 rfl (eqSc_ok (zI (sgC n p d z) n) (zI (sgC n p d z) p) (zI (sgC n p d z) (gsK p d z : Int)) (zI (sgC n p d z) n) (zI (sgC n p d z) p) (zI (sgC n p d z) (gsK p d z : Int)) ho337.rd (rd_ofO ho338.rd) (hr42.ext X325) (hr43.ext X325))) ?_
            rintro _ H345 ⟨rfl, hx346⟩
            have q347 := Nat.le_trans q318 hx346.bd
            have q348 := Nat.le_trans q319 hx346.bd
            have q349 := Nat.le_trans q320 hx346.bd
            have q350 := Nat.le_trans q328 hx346.bd
            have q351 := Nat.le_trans q330 hx346.bd
            have q352 := Nat.le_trans q332 hx346.bd
            have q353 := Nat.le_trans q334 hx346.bd
            have q354 := Nat.le_trans q336 hx346.bd
            have X355 := Ext.trans X321 hx346
            have X356 := Ext.trans X322 hx346
            have X357 := Ext.trans X323 hx346
            have X358 := Ext.trans X324 hx346
            have X359 := Ext.trans X325 hx346
            have X360 := Ext.trans X326 hx346
            have ho361 := ho337.ext hx346
            have ho362 := ho338.ext hx346
            have hb363 := hb339.ext hx346
            have hb364 := hb340.ext hx346
            have hb365 := hb342.ext hx346
            refine AL.val rfl (.inr ⟨_, _, _, rfl, rfl, rfl⟩) (HV.not rfl) ?_
            refine AL.val rfl (.inl rfl) (HV.pickF rfl rfl) ?_
            refine AL.val rfl (.inl rfl) (HV.mv rfl) ?_
            by_cases c366 : (zI (sgC n p d z) n) = (zI (sgC n p d z) n) ∧ (zL (sgC n p d z) (gsO p d z)) = (zL (sgC n p d z) (gsO p d z)) ∧ (zI (sgC n p d z) p) = (zI (sgC n p d z) p) ∧ (zI (sgC n p d z) (gsK p d z : Int)) = (zI (sgC n p d z) (gsK p d z : Int)) ∧ (zL (sgC n p d z) (gsL p d z)) = (zL (sgC n p d z) (gsL p d z))
            · -- false
              have c366_ : (!decide ((zI (sgC n p d z) n) = (zI (sgC n p d z) n) ∧ (zL (sgC n p d z) (gsO p d z)) = (zL (sgC n p d z) (gsO p d z)) ∧ (zI (sgC n p d z) p) = (zI (sgC n p d z) p) ∧ (zI (sgC n p d z) (gsK p d z : Int)) = (zI (sgC n p d z) (gsK p d z : Int)) ∧ (zL (sgC n p d z) (gsL p d z)) = (zL (sgC n p d z) (gsL p d z)))) = false := by rw [decide_eq_true c366]; rfl
              rw [c366_]
              refine AL.val rfl (.inr ⟨_, _, _, rfl, rfl, rfl⟩) (HV.mv rfl) ?_
              refine AL.val rfl (.inr ⟨_, _, _, rfl, rfl, rfl⟩) (HV.mv rfl) ?_
              refine AL.val rfl (.inr ⟨_, _, _, rfl, rfl, rfl⟩) (HV.nei rfl rfl) ?_
              refine AL.val rfl (.inl rfl) (HV.pickF rfl rfl) ?_
              refine AL.nx ?_
              refine AW.ifd rfl (fun c367 => ?_) (fun c367 => ?_)
              · -- then
                refine AW.rs ?_
                refine AL.val rfl (.inl rfl) (HV.as rfl) ?_
                refine AL.nx ?_
                refine AW.ret ?_
                refine ret_and ?_
                refine post_one rfl rfl ?_ (.inr rfl)
                exfalso; first | omega | (simp at c367; done) | exact c367 ⟨rfl, rfl, rfl, rfl, rfl⟩ | exact absurd c367 (by simp)
              · -- else
                refine AW.skip ?_
                refine nrm_and ?_
                refine AW.rs ?_
                refine AL.val rfl (.inl rfl) (HV.as rfl) ?_
                refine AL.nx ?_
                refine AW.rs ?_
                refine AL.val rfl (.inl rfl) (HV.lda (cs := [.int .i64 (zI (sgC n p d z) n), u160, .int .i64 (zI (sgC n p d z) p), .int .i64 (zI (sgC n p d z) (gsK p d z : Int)), v161]) rfl va31 (at_cells hb365 rfl)) ?_
                refine AL.val rfl (.inl rfl) (HV.mv rfl) ?_
                refine AL.w rfl (.inl rfl) (WV.call fn18 rfl (markSc3_ok (zI (sgC n p d z) n) (zI (sgC n p d z) p) (zI (sgC n p d z) (gsK p d z : Int)) ho361 ho362 (fun b h1 h2 => by have a1 := h1.1.2; have a2 := h2.1.2; omega) (fun b h => by have a1 : H132.bd ≤ b := h.1.1; omega) (sg_len (n := n) (p := p) (d := d) (z := z)).1 (sg_len (n := n) (p := p) (d := d) (z := z)).2 1 (by omega))) ?_
                rintro _ H368 ⟨⟨ko369, kl370, rfl, e373, e374, e375, e376, ho377, ho378⟩, hx371⟩
                have hx372 := But.mono hx371 (fun b e => (e.elim (fun q => ⟨q.1.1, q.2⟩) (fun q => ⟨q.1.1, q.2⟩) : H132.bd ≤ b ∧ b < H163.bd))
                have hof379 := offs_le (B := 1048576) ((sg_len (n := n) (p := p) (d := d) (z := z))).2.2 (zL (sgC n p d z) (gsL p d z)).length (Nat.le_refl _)
                have q382 := Nat.le_trans q347 hx372.bd
                have q383 := Nat.le_trans q348 hx372.bd
                have q384 := Nat.le_trans q349 hx372.bd
                have q385 := Nat.le_trans q350 hx372.bd
                have q386 := Nat.le_trans q351 hx372.bd
                have q387 := Nat.le_trans q352 hx372.bd
                have q388 := Nat.le_trans q353 hx372.bd
                have q389 := Nat.le_trans q354 hx372.bd
                have X390 := Ext.thru X355 hx372 (fun b hb => Nat.le_trans o152 hb.1)
                have X391 := Ext.thru X356 hx372 (fun b hb => Nat.le_trans o153 hb.1)
                have X392 := Ext.thru X357 hx372 (fun b hb => Nat.le_trans o154 hb.1)
                have X393 := Ext.thru X358 hx372 (fun b hb => Nat.le_trans o155 hb.1)
                have X394 := Ext.thru X359 hx372 (fun b hb => Nat.le_trans o156 hb.1)
                have X395 := Ext.thru X360 hx372 (fun b hb => Nat.le_trans o157 hb.1)
                have hb396 := hb363.but hx372 (fun e => by have q : H132.bd ≤ b1 ∧ b1 < H163.bd := e; omega)
                have hb397 := hb364.but hx372 (fun e => by have q : H132.bd ≤ b50 ∧ b50 < H163.bd := e; omega)
                have hb398 := hb365.but hx372 (fun e => by have q : H132.bd ≤ b185 ∧ b185 < H163.bd := e; omega)
                refine AL.val rfl (.inl rfl) (HV.as rfl) ?_
                refine AL.nx ?_
                refine AW.rs ?_
                refine AL.val rfl (.inl rfl) (HV.as rfl) ?_
                refine AL.nx ?_
                refine AW.rs ?_
                refine AL.val rfl (.inl rfl) (HV.lda (cs := [.int .i64 (zI (sgC n p d z) n), u160, .int .i64 (zI (sgC n p d z) p), .int .i64 (zI (sgC n p d z) (gsK p d z : Int)), v161]) rfl va31 (at_cells hb398 rfl)) ?_
                refine AL.val rfl (.inl rfl) (HV.mv rfl) ?_
                have hbz := (sg_len (n := n) (p := p) (d := d) (z := z))
                refine AL.w rfl (.inl rfl) (WV.call fn19 rfl (heldSc_ok (zI (sgC n p d z) n) (zI (sgC n p d z) p) (zI (sgC n p d z) (gsK p d z : Int)) ho377.rd (rd_ofO ho378.rd) 1 (by omega) hbz.1 e373 e374 hbz.2 e375 e376)) ?_
                rintro _ H399 ⟨rfl, hx400⟩
                have q401 := Nat.le_trans q382 hx400.bd
                have q402 := Nat.le_trans q383 hx400.bd
                have q403 := Nat.le_trans q384 hx400.bd
                have q404 := Nat.le_trans q385 hx400.bd
                have q405 := Nat.le_trans q386 hx400.bd
                have q406 := Nat.le_trans q387 hx400.bd
                have q407 := Nat.le_trans q388 hx400.bd
                have q408 := Nat.le_trans q389 hx400.bd
                have X409 := Ext.trans X390 hx400
                have X410 := Ext.trans X391 hx400
                have X411 := Ext.trans X392 hx400
                have X412 := Ext.trans X393 hx400
                have X413 := Ext.trans X394 hx400
                have X414 := Ext.trans X395 hx400
                have ho415 := ho377.ext hx400
                have ho416 := ho378.ext hx400
                have hb417 := hb396.ext hx400
                have hb418 := hb397.ext hx400
                have hb419 := hb398.ext hx400
                refine AL.val rfl (.inl rfl) (HV.as rfl) ?_
                refine AL.nx ?_
                refine AW.seq ?_
                refine AW.rs ?_
                refine AL.val rfl (.inl rfl) (HV.mv rfl) ?_
                refine AL.val rfl (.inl rfl) (HV.lti rfl rfl) ?_
                refine AL.nx ?_
                refine AW.ifd rfl (fun c420 => ?_) (fun c420 => ?_)
                · -- then
                  refine AW.rs ?_
                  refine AL.val rfl (.inl rfl) (HV.as rfl) ?_
                  refine AL.nx ?_
                  refine AW.ret ?_
                  refine ret_and ?_
                  refine post_one rfl rfl ?_ (.inr rfl)
                  exfalso; first | omega | (simp at c420; done) | exact c420 ⟨rfl, rfl, rfl, rfl, rfl⟩ | exact absurd c420 (by simp)
                · -- else
                  refine AW.skip ?_
                  refine nrm_and ?_
                  refine AW.seq ?_
                  refine AW.rs ?_
                  refine AL.val rfl (.inl rfl) (HV.mv rfl) ?_
                  refine AL.val rfl (.inl rfl) (HV.mv rfl) ?_
                  refine AL.val rfl (.inl rfl) (HV.nei rfl rfl) ?_
                  refine AL.nx ?_
                  refine AW.ifd rfl (fun c421 => ?_) (fun c421 => ?_)
                  · -- then
                    refine AW.rs ?_
                    refine AL.val rfl (.inl rfl) (HV.as rfl) ?_
                    refine AL.nx ?_
                    refine AW.ret ?_
                    refine ret_and ?_
                    refine post_one rfl rfl ?_ (.inr rfl)
                    exfalso; first | omega | (simp at c421; done) | exact c421 ⟨rfl, rfl, rfl, rfl, rfl⟩ | exact absurd c421 (by simp)
                  · -- else
                    refine AW.skip ?_
                    refine nrm_and ?_
                    refine AW.rs ?_
                    refine AL.val rfl (.inl rfl) (HV.mv rfl) ?_
                    refine AL.val rfl (.inl rfl) (HV.mv rfl) ?_
                    refine AL.val rfl (.inl rfl) (HV.lda (cs := [.int .i64 a, .int .i64 l, v]) rfl va56 (at_cells hb417 rfl)) ?_
                    have X422 := Ext.refl H399
                    refine AL.w rfl (.inl rfl) (WV.call fn38 rfl (toGate_all d (Kd.ext (kG d) hK X409) (by omega))) ?_
                    rintro _ H423 ⟨⟨u425, rfl, hk426⟩, hx424⟩
                    have q428 := Nat.le_trans q401 hx424.bd
                    have q429 := Nat.le_trans q402 hx424.bd
                    have q430 := Nat.le_trans q403 hx424.bd
                    have q431 := Nat.le_trans q404 hx424.bd
                    have q432 := Nat.le_trans q405 hx424.bd
                    have q433 := Nat.le_trans q406 hx424.bd
                    have q434 := Nat.le_trans q407 hx424.bd
                    have q435 := Nat.le_trans q408 hx424.bd
                    have X436 := Ext.trans X409 hx424
                    have X437 := Ext.trans X410 hx424
                    have X438 := Ext.trans X411 hx424
                    have X439 := Ext.trans X412 hx424
                    have X440 := Ext.trans X413 hx424
                    have X441 := Ext.trans X414 hx424
                    have X442 := Ext.trans X422 hx424
                    have ho443 := ho415.ext hx424
                    have ho444 := ho416.ext hx424
                    have hb445 := hb417.ext hx424
                    have hb446 := hb418.ext hx424
                    have hb447 := hb419.ext hx424
                    have X448 := Ext.refl H423
                    obtain ⟨_, isl427⟩ := gk_isl hk426
                    have y449 := hb445.lt
                    have y450 := hb446.lt
                    have y451 := hb447.lt
                    have o452 := X436.bd
                    have o453 := X437.bd
                    have o454 := X438.bd
                    have o455 := X439.bd
                    have o456 := X440.bd
                    have o457 := X441.bd
                    have o458 := X442.bd
                    have o459 := X448.bd
                    have a460 := ho443.ltb
                    have a461 := ho444.ltb
                    refine AL.w rfl (.inl rfl) (WV.call fn39 rfl (implSG_ok hk426 p n (Nat.le_trans hW X436.bd) (by omega))) ?_
                    rintro _ H465 ⟨⟨u462, v463, la464, rfl, ho467, ho468⟩, hx466⟩
                    have q471 := Nat.le_trans q428 hx466.bd
                    have q472 := Nat.le_trans q429 hx466.bd
                    have q473 := Nat.le_trans q430 hx466.bd
                    have q474 := Nat.le_trans q431 hx466.bd
                    have q475 := Nat.le_trans q432 hx466.bd
                    have q476 := Nat.le_trans q433 hx466.bd
                    have q477 := Nat.le_trans q434 hx466.bd
                    have q478 := Nat.le_trans q435 hx466.bd
                    have X479 := Ext.trans X436 hx466
                    have X480 := Ext.trans X437 hx466
                    have X481 := Ext.trans X438 hx466
                    have X482 := Ext.trans X439 hx466
                    have X483 := Ext.trans X440 hx466
                    have X484 := Ext.trans X441 hx466
                    have X485 := Ext.trans X442 hx466
                    have X486 := Ext.trans X448 hx466
                    have ho487 := ho443.ext hx466
                    have ho488 := ho444.ext hx466
                    have hb489 := hb445.ext hx466
                    have hb490 := hb446.ext hx466
                    have hb491 := hb447.ext hx466
                    have X492 := Ext.refl H465
                    have hr469 := ho467.rd
                    have hr470 := rd_ofO ho468.rd
                    refine AL.val rfl (.inl rfl) (HV.mv rfl) ?_
                    refine AL.val rfl (.inl rfl) (HV.ex rfl rfl) ?_
                    refine AL.val rfl (.inl rfl) (HV.ex rfl rfl) ?_
                    refine AL.w rfl (.inl rfl) (WV.al ze31 rfl) ?_
                    rintro _ H494 ⟨b493, rfl, hx495, hn496, hb497⟩
                    have o498 := Nat.le_trans X479.bd hn496
                    have o499 := Nat.le_trans X480.bd hn496
                    have o500 := Nat.le_trans X481.bd hn496
                    have o501 := Nat.le_trans X482.bd hn496
                    have o502 := Nat.le_trans X483.bd hn496
                    have o503 := Nat.le_trans X484.bd hn496
                    have o504 := Nat.le_trans X485.bd hn496
                    have o505 := Nat.le_trans X486.bd hn496
                    have o506 := Nat.le_trans X492.bd hn496
                    have o507 := Nat.le_trans q471 hn496
                    have o508 := Nat.le_trans q472 hn496
                    have o509 := Nat.le_trans q473 hn496
                    have o510 := Nat.le_trans q474 hn496
                    have o511 := Nat.le_trans q475 hn496
                    have o512 := Nat.le_trans q476 hn496
                    have o513 := Nat.le_trans q477 hn496
                    have o514 := Nat.le_trans q478 hn496
                    have ne515 : b1 ≠ b493 := by have := hb489.lt; omega
                    have ne516 : b50 ≠ b493 := by have := hb490.lt; omega
                    have ne517 : b185 ≠ b493 := by have := hb491.lt; omega
                    have q518 := Nat.le_trans q471 hx495.bd
                    have q519 := Nat.le_trans q472 hx495.bd
                    have q520 := Nat.le_trans q473 hx495.bd
                    have q521 := Nat.le_trans q474 hx495.bd
                    have q522 := Nat.le_trans q475 hx495.bd
                    have q523 := Nat.le_trans q476 hx495.bd
                    have q524 := Nat.le_trans q477 hx495.bd
                    have q525 := Nat.le_trans q478 hx495.bd
                    have X526 := Ext.trans X479 hx495
                    have X527 := Ext.trans X480 hx495
                    have X528 := Ext.trans X481 hx495
                    have X529 := Ext.trans X482 hx495
                    have X530 := Ext.trans X483 hx495
                    have X531 := Ext.trans X484 hx495
                    have X532 := Ext.trans X485 hx495
                    have X533 := Ext.trans X486 hx495
                    have X534 := Ext.trans X492 hx495
                    have ho535 := ho487.ext hx495
                    have ho536 := ho488.ext hx495
                    have hb537 := hb489.ext hx495
                    have hb538 := hb490.ext hx495
                    have hb539 := hb491.ext hx495
                    have X540 := Ext.refl H494
                    refine AL.w0 (.inl rfl) (WV.st rfl rfl va31 rfl hb497 (Nat.le_of_ble_eq_true rfl) (one_cons rfl (one_cons (sl_one1 (hr469.ext X534).isSl) (one_cons rfl (one_cons rfl (one_cons (sl_one1 (hr470.ext X534).isSl) one_nil)))))) ?_
                    rintro _ H541 ⟨hx542, hb543⟩
                    have q544 := Nat.le_trans q518 hx542.bd
                    have q545 := Nat.le_trans q519 hx542.bd
                    have q546 := Nat.le_trans q520 hx542.bd
                    have q547 := Nat.le_trans q521 hx542.bd
                    have q548 := Nat.le_trans q522 hx542.bd
                    have q549 := Nat.le_trans q523 hx542.bd
                    have q550 := Nat.le_trans q524 hx542.bd
                    have q551 := Nat.le_trans q525 hx542.bd
                    have X552 := Ext.thru X526 hx542 (fun z_ hz_ => by rw [hz_]; exact o498)
                    have X553 := Ext.thru X527 hx542 (fun z_ hz_ => by rw [hz_]; exact o499)
                    have X554 := Ext.thru X528 hx542 (fun z_ hz_ => by rw [hz_]; exact o500)
                    have X555 := Ext.thru X529 hx542 (fun z_ hz_ => by rw [hz_]; exact o501)
                    have X556 := Ext.thru X530 hx542 (fun z_ hz_ => by rw [hz_]; exact o502)
                    have X557 := Ext.thru X531 hx542 (fun z_ hz_ => by rw [hz_]; exact o503)
                    have X558 := Ext.thru X532 hx542 (fun z_ hz_ => by rw [hz_]; exact o504)
                    have X559 := Ext.thru X533 hx542 (fun z_ hz_ => by rw [hz_]; exact o505)
                    have X560 := Ext.thru X534 hx542 (fun z_ hz_ => by rw [hz_]; exact o506)
                    have q562 := Nat.le_trans X540.bd hx542.bd
                    have ho563 := ho535.but hx542 (fun b hb _ e => by have hb' : (H132.bd ≤ b ∧ la162 b = 0) ∧ b < H163.bd := hb; have e' : b = b493 := e; omega) (fun z_ hz_ => by rw [hz_]; exact hb497.w)
                    have ho564 := ho536.but hx542 (fun b hb _ e => by have hb' : (H132.bd ≤ b ∧ la162 b = 1) ∧ b < H163.bd := hb; have e' : b = b493 := e; omega) (fun z_ hz_ => by rw [hz_]; exact hb497.w)
                    have hb565 := hb537.but hx542 ne515
                    have hb566 := hb538.but hx542 ne516
                    have hb567 := hb539.but hx542 ne517
                    have hb568 : At W H541 b493 ⟨31, [.int .i64 (zI (sgC n p d z) n), u462, .int .i64 (zI (sgC n p d z) p), .int .i64 (zI (sgC n p d z) (gsK p d z : Int)), v463], 5⟩ := hb543
                    refine AL.val rfl (.inl rfl) (HV.as rfl) ?_
                    refine AL.nx ?_
                    refine AW.seq ?_
                    refine AW.rs ?_
                    refine AL.val rfl (.inl rfl) (HV.lda (cs := [.int .i64 (zI (sgC n p d z) n), u462, .int .i64 (zI (sgC n p d z) p), .int .i64 (zI (sgC n p d z) (gsK p d z : Int)), v463]) rfl va31 (at_cells hb568 rfl)) ?_
                    refine AL.val rfl (.inl rfl) (HV.lda (cs := [.int .i64 (zI (sgC n p d z) n), u35, .int .i64 (zI (sgC n p d z) p), .int .i64 (zI (sgC n p d z) (gsK p d z : Int)), v36]) rfl va31 (at_cells hb566 rfl)) ?_
                    refine AL.w rfl (.inl rfl) (WV.call fn17 rfl (eqSc_ok (zI (sgC n p d z) n) (zI (sgC n p d z) p) (zI (sgC n p d z) (gsK p d z : Int)) (zI (sgC n p d z) n) (zI (sgC n p d z) p) (zI (sgC n p d z) (gsK p d z : Int)) (hr469.ext X560) (hr470.ext X560) (hr42.ext X556) (hr43.ext X556))) ?_
                    rintro _ H569 ⟨rfl, hx570⟩
                    have q571 := Nat.le_trans q544 hx570.bd
                    have q572 := Nat.le_trans q545 hx570.bd
                    have q573 := Nat.le_trans q546 hx570.bd
                    have q574 := Nat.le_trans q547 hx570.bd
                    have q575 := Nat.le_trans q548 hx570.bd
                    have q576 := Nat.le_trans q549 hx570.bd
                    have q577 := Nat.le_trans q550 hx570.bd
                    have q578 := Nat.le_trans q551 hx570.bd
                    have q579 := Nat.le_trans q562 hx570.bd
                    have X580 := Ext.trans X552 hx570
                    have X581 := Ext.trans X553 hx570
                    have X582 := Ext.trans X554 hx570
                    have X583 := Ext.trans X555 hx570
                    have X584 := Ext.trans X556 hx570
                    have X585 := Ext.trans X557 hx570
                    have X586 := Ext.trans X558 hx570
                    have X587 := Ext.trans X559 hx570
                    have X588 := Ext.trans X560 hx570
                    have ho589 := ho563.ext hx570
                    have ho590 := ho564.ext hx570
                    have hb591 := hb565.ext hx570
                    have hb592 := hb566.ext hx570
                    have hb593 := hb567.ext hx570
                    have hb594 := hb568.ext hx570
                    refine AL.val rfl (.inl rfl) (HV.not rfl) ?_
                    refine AL.val rfl (.inl rfl) (HV.mv rfl) ?_
                    by_cases c595 : (zI (sgC n p d z) n) = (zI (sgC n p d z) n) ∧ (zL (sgC n p d z) (gsO p d z)) = (zL (sgC n p d z) (gsO p d z)) ∧ (zI (sgC n p d z) p) = (zI (sgC n p d z) p) ∧ (zI (sgC n p d z) (gsK p d z : Int)) = (zI (sgC n p d z) (gsK p d z : Int)) ∧ (zL (sgC n p d z) (gsL p d z)) = (zL (sgC n p d z) (gsL p d z))
                    · -- false
                      have c595_ : (!decide ((zI (sgC n p d z) n) = (zI (sgC n p d z) n) ∧ (zL (sgC n p d z) (gsO p d z)) = (zL (sgC n p d z) (gsO p d z)) ∧ (zI (sgC n p d z) p) = (zI (sgC n p d z) p) ∧ (zI (sgC n p d z) (gsK p d z : Int)) = (zI (sgC n p d z) (gsK p d z : Int)) ∧ (zL (sgC n p d z) (gsL p d z)) = (zL (sgC n p d z) (gsL p d z)))) = false := by rw [decide_eq_true c595]; rfl
                      rw [c595_]
                      refine AL.val rfl (.inr ⟨_, _, _, rfl, rfl, rfl⟩) (HV.mv rfl) ?_
                      refine AL.val rfl (.inr ⟨_, _, _, rfl, rfl, rfl⟩) (HV.mv rfl) ?_
                      refine AL.val rfl (.inr ⟨_, _, _, rfl, rfl, rfl⟩) (HV.nei rfl rfl) ?_
                      refine AL.val rfl (.inl rfl) (HV.pickF rfl rfl) ?_
                      refine AL.nx ?_
                      refine AW.ifd rfl (fun c596 => ?_) (fun c596 => ?_)
                      · -- then
                        refine AW.rs ?_
                        refine AL.val rfl (.inl rfl) (HV.as rfl) ?_
                        refine AL.nx ?_
                        refine AW.ret ?_
                        refine ret_and ?_
                        refine post_one rfl rfl ?_ (.inr rfl)
                        exfalso; first | omega | (simp at c596; done) | exact c596 ⟨rfl, rfl, rfl, rfl, rfl⟩ | exact absurd c596 (by simp)
                      · -- else
                        refine AW.skip ?_
                        refine nrm_and ?_
                        refine AW.rs ?_
                        refine AL.val rfl (.inl rfl) (HV.as rfl) ?_
                        refine AL.nx ?_
                        refine AW.rs ?_
                        refine AL.val rfl (.inl rfl) (HV.lda (cs := [.int .i64 (zI (sgC n p d z) n), u160, .int .i64 (zI (sgC n p d z) p), .int .i64 (zI (sgC n p d z) (gsK p d z : Int)), v161]) rfl va31 (at_cells hb593 rfl)) ?_
                        refine AL.val rfl (.inl rfl) (HV.mv rfl) ?_
                        have hbz := (sg_len (n := n) (p := p) (d := d) (z := z))
                        refine AL.w rfl (.inl rfl) (WV.call fn19 rfl (heldSc_ok (zI (sgC n p d z) n) (zI (sgC n p d z) p) (zI (sgC n p d z) (gsK p d z : Int)) ho589.rd (rd_ofO ho590.rd) 1 (by omega) hbz.1 e373 e374 hbz.2 e375 e376)) ?_
                        rintro _ H597 ⟨rfl, hx598⟩
                        have q599 := Nat.le_trans q571 hx598.bd
                        have q600 := Nat.le_trans q572 hx598.bd
                        have q601 := Nat.le_trans q573 hx598.bd
                        have q602 := Nat.le_trans q574 hx598.bd
                        have q603 := Nat.le_trans q575 hx598.bd
                        have q604 := Nat.le_trans q576 hx598.bd
                        have q605 := Nat.le_trans q577 hx598.bd
                        have q606 := Nat.le_trans q578 hx598.bd
                        have q607 := Nat.le_trans q579 hx598.bd
                        have X608 := Ext.trans X580 hx598
                        have X609 := Ext.trans X581 hx598
                        have X610 := Ext.trans X582 hx598
                        have X611 := Ext.trans X583 hx598
                        have X612 := Ext.trans X584 hx598
                        have X613 := Ext.trans X585 hx598
                        have X614 := Ext.trans X586 hx598
                        have X615 := Ext.trans X587 hx598
                        have X616 := Ext.trans X588 hx598
                        have ho617 := ho589.ext hx598
                        have ho618 := ho590.ext hx598
                        have hb619 := hb591.ext hx598
                        have hb620 := hb592.ext hx598
                        have hb621 := hb593.ext hx598
                        have hb622 := hb594.ext hx598
                        refine AL.val rfl (.inl rfl) (HV.as rfl) ?_
                        refine AL.nx ?_
                        refine AW.seq ?_
                        refine AW.rs ?_
                        refine AL.val rfl (.inl rfl) (HV.mv rfl) ?_
                        refine AL.val rfl (.inl rfl) (HV.lti rfl rfl) ?_
                        refine AL.nx ?_
                        refine AW.ifd rfl (fun c623 => ?_) (fun c623 => ?_)
                        · -- then
                          refine AW.rs ?_
                          refine AL.val rfl (.inl rfl) (HV.as rfl) ?_
                          refine AL.nx ?_
                          refine AW.ret ?_
                          refine ret_and ?_
                          refine post_one rfl rfl ?_ (.inr rfl)
                          exfalso; first | omega | (simp at c623; done) | exact c623 ⟨rfl, rfl, rfl, rfl, rfl⟩ | exact absurd c623 (by simp)
                        · -- else
                          refine AW.skip ?_
                          refine nrm_and ?_
                          refine AW.seq ?_
                          refine AW.rs ?_
                          refine AL.val rfl (.inl rfl) (HV.mv rfl) ?_
                          refine AL.val rfl (.inl rfl) (HV.mv rfl) ?_
                          refine AL.val rfl (.inl rfl) (HV.nei rfl rfl) ?_
                          refine AL.nx ?_
                          refine AW.ifd rfl (fun c624 => ?_) (fun c624 => ?_)
                          · -- then
                            refine AW.rs ?_
                            refine AL.val rfl (.inl rfl) (HV.as rfl) ?_
                            refine AL.nx ?_
                            refine AW.ret ?_
                            refine ret_and ?_
                            refine post_one rfl rfl ?_ (.inr rfl)
                            exfalso; first | omega | (simp at c624; done) | exact c624 ⟨rfl, rfl, rfl, rfl, rfl⟩ | exact absurd c624 (by simp)
                          · -- else
                            refine AW.skip ?_
                            refine nrm_and ?_
                            refine AW.rs ?_
                            refine AL.val rfl (.inl rfl) (HV.as rfl) ?_
                            refine AL.nx ?_
                            refine AW.ret ?_
                            refine post_one rfl rfl ?_ (.inr rfl)
                            exact ⟨rfl, X608⟩
                    · -- true
                      have c595_ : (!decide ((zI (sgC n p d z) n) = (zI (sgC n p d z) n) ∧ (zL (sgC n p d z) (gsO p d z)) = (zL (sgC n p d z) (gsO p d z)) ∧ (zI (sgC n p d z) p) = (zI (sgC n p d z) p) ∧ (zI (sgC n p d z) (gsK p d z : Int)) = (zI (sgC n p d z) (gsK p d z : Int)) ∧ (zL (sgC n p d z) (gsL p d z)) = (zL (sgC n p d z) (gsL p d z)))) = true := by rw [decide_eq_false c595]; rfl
                      rw [c595_]
                      refine AL.off rfl rfl (by decide) rfl ?_
                      refine AL.off rfl rfl (by decide) rfl ?_
                      refine AL.off rfl rfl (by decide) rfl ?_
                      refine AL.val rfl (.inl rfl) (HV.pickT rfl rfl) ?_
                      refine AL.nx ?_
                      refine AW.cond rfl (fun _ => ?_) (fun h => by cases h)
                      refine AW.rs ?_
                      refine AL.val rfl (.inl rfl) (HV.as rfl) ?_
                      refine AL.nx ?_
                      refine AW.ret ?_
                      refine ret_and ?_
                      refine post_one rfl rfl ?_ (.inr rfl)
                      exfalso; first | omega | (simp at c595; done) | exact c595 ⟨rfl, rfl, rfl, rfl, rfl⟩ | exact absurd c595 (by simp)
            · -- true
              have c366_ : (!decide ((zI (sgC n p d z) n) = (zI (sgC n p d z) n) ∧ (zL (sgC n p d z) (gsO p d z)) = (zL (sgC n p d z) (gsO p d z)) ∧ (zI (sgC n p d z) p) = (zI (sgC n p d z) p) ∧ (zI (sgC n p d z) (gsK p d z : Int)) = (zI (sgC n p d z) (gsK p d z : Int)) ∧ (zL (sgC n p d z) (gsL p d z)) = (zL (sgC n p d z) (gsL p d z)))) = true := by rw [decide_eq_false c366]; rfl
              rw [c366_]
              refine AL.off rfl rfl (by decide) rfl ?_
              refine AL.off rfl rfl (by decide) rfl ?_
              refine AL.off rfl rfl (by decide) rfl ?_
              refine AL.val rfl (.inl rfl) (HV.pickT rfl rfl) ?_
              refine AL.nx ?_
              refine AW.cond rfl (fun _ => ?_) (fun h => by cases h)
              refine AW.rs ?_
              refine AL.val rfl (.inl rfl) (HV.as rfl) ?_
              refine AL.nx ?_
              refine AW.ret ?_
              refine ret_and ?_
              refine post_one rfl rfl ?_ (.inr rfl)
              exfalso; first | omega | (simp at c366; done) | exact c366 ⟨rfl, rfl, rfl, rfl, rfl⟩ | exact absurd c366 (by simp)
    · -- true
      have c263_ : (!decide ((zI (sgC n p d z) n) = (zI (sgC n p d z) n) ∧ (zL (sgC n p d z) (gsO p d z)) = (zL (sgC n p d z) (gsO p d z)) ∧ (zI (sgC n p d z) p) = (zI (sgC n p d z) p) ∧ (zI (sgC n p d z) (gsK p d z : Int)) = (zI (sgC n p d z) (gsK p d z : Int)) ∧ (zL (sgC n p d z) (gsL p d z)) = (zL (sgC n p d z) (gsL p d z)))) = true := by rw [decide_eq_false c263]; rfl
      rw [c263_]
      refine AL.off rfl rfl (by decide) rfl ?_
      refine AL.off rfl rfl (by decide) rfl ?_
      refine AL.off rfl rfl (by decide) rfl ?_
      refine AL.val rfl (.inl rfl) (HV.pickT rfl rfl) ?_
      refine AL.nx ?_
      refine AW.cond rfl (fun _ => ?_) (fun h => by cases h)
      refine AW.rs ?_
      refine AL.val rfl (.inl rfl) (HV.as rfl) ?_
      refine AL.nx ?_
      refine AW.ret ?_
      refine ret_and ?_
      refine post_one rfl rfl ?_ (.inr rfl)
      exfalso; first | omega | (simp at c263; done) | exact c263 ⟨rfl, rfl, rfl, rfl, rfl⟩ | exact absurd c263 (by simp)
end Go.Proofs.Yticobjbjejpomaa.VC

