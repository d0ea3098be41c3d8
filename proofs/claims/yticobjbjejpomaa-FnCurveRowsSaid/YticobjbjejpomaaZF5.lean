/- Walks. -/
import Derived.Test.YticobjbjejpomaaZF4
set_option linter.unusedVariables false
set_option linter.unusedSimpArgs false
namespace Go.Proofs.Yticobjbjejpomaa.VC
open Go Go.RowKit
variable {W : World} {H : Hp}

set_option maxRecDepth 100000 in
set_option maxHeartbeats 4000000 in
theorem comb_ok {v : Value} {l : List (List Int)} {ok : Nat → Prop} (p k : Int) (hr : RdK (kR kI) W H ok v l) {vt : Value} {tg : List Int} {okt : Nat → Prop} (hrt : RdK kI W H okt vt tg) {K : Nat} (hq : isPr p = true) (hkK : k = (K : Int)) (hrc : rect p K l) (hK : K ≤ 30) (hR : l.length ≤ 30) (htg : elems p tg) (htl : tg.length = K) : ACalls Try.prog W 82 #[.agg #[.int .i64 p, .int .i64 k, v], vt] H (fun r H' => (∃ u, r = .tuple #[u, .bool (combI p l tg).2] ∧ OwnK kI 2 W H' (fun b => H.bd ≤ b) u (combI p l tg).1) ∧ Ext H H') := by
  refine ACalls.of (args := [.agg #[.int .i64 p, .int .i64 k, v], vt]) Try.func82 rfl rfl ?_
  have X0 := Ext.refl H
  have hm1 := hr.max
  have hm2 := hrt.max
  have hp := isPr_bd hq
  have hmx := hr.max
  have hmt := hrt.max
  refine AW.rs ?_
  refine AL.w rfl (.inl rfl) (WV.bx rfl rfl) ?_
  rintro _ H4 ⟨b3, rfl, hx5, hn6, hb7⟩
  have o8 := Nat.le_trans X0.bd hn6
  have X9 := Ext.trans X0 hx5
  have X10 := Ext.refl H4
  refine AL.val rfl (.inl rfl) (HV.as rfl) ?_
  refine AL.val rfl (.inl rfl) (HV.as rfl) ?_
  refine AL.nx ?_
  refine AW.rs ?_
  have y11 := hb7.lt
  have o12 := X9.bd
  have o13 := X10.bd
  refine AL.w rfl (.inl rfl) (WV.bsK (K := (kP (kR kI) (kR kI))) (l := ([] : List (List Int × List Int))) (css := []) sl164 rfl rfl (by first | rfl | simp [Instr.fill]) rfl segs_nil) ?_
  rintro v14 H15 ⟨hx16, ho17⟩
  have X18 := Ext.trans X9 hx16
  have X19 := Ext.trans X10 hx16
  have hb20 := hb7.ext hx16
  have X22 := Ext.refl H15
  have ho23 := ho17.okk (ok' := fun b => H4.bd ≤ b ∧ b < H15.bd) (fun b hb hlt => ⟨hb, hlt⟩)
  refine AL.w rfl (.inl rfl) (WV.al ze164 rfl) ?_
  rintro _ H25 ⟨b24, rfl, hx26, hn27, hb28⟩
  have o29 := Nat.le_trans X18.bd hn27
  have o30 := Nat.le_trans X19.bd hn27
  have o31 := Nat.le_trans X22.bd hn27
  have ne32 : b3 ≠ b24 := by have := hb20.lt; omega
  have X33 := Ext.trans X18 hx26
  have X34 := Ext.trans X19 hx26
  have X35 := Ext.trans X22 hx26
  have ho36 := ho23.ext hx26
  have hb37 := hb20.ext hx26
  have X38 := Ext.refl H25
  refine AL.w0 (.inl rfl) (WV.st rfl rfl va164 (sl_size ho36.rd.isSl) hb28 (Nat.le_of_ble_eq_true rfl) (sl_one ho36.rd.isSl)) ?_
  rintro _ H39 ⟨hx40, hb41⟩
  rw [sl_cells ho36.rd.isSl] at hb41
  have X42 := Ext.thru X33 hx40 (fun z_ hz_ => by rw [hz_]; exact o29)
  have X43 := Ext.thru X34 hx40 (fun z_ hz_ => by rw [hz_]; exact o30)
  have X44 := Ext.thru X35 hx40 (fun z_ hz_ => by rw [hz_]; exact o31)
  have q46 := Nat.le_trans X38.bd hx40.bd
  have ho47 := ho36.but hx40 (fun b hb _ e => by have hb' : H4.bd ≤ b ∧ b < H15.bd := hb; have e' : b = b24 := e; omega) (fun z_ hz_ => by rw [hz_]; exact hb28.w)
  have hb48 := hb37.but hx40 ne32
  have hb49 : At W H39 b24 ⟨164, [v14], 1⟩ := hb41
  refine AL.nx ?_
  refine AW.rs ?_
  refine AL.val rfl (.inl rfl) (HV.fn rfl rfl) ?_
  refine AL.val rfl (.inl rfl) (HV.as rfl) ?_
  refine AL.nx ?_
  refine AW.seq ?_
  refine AW.rs ?_
  refine AL.val rfl (.inl rfl) (HV.fa fl29_2 rfl) ?_
  refine AL.val rfl (.inl rfl) (HV.ld rfl va23 (at_cell_add (j := 2) hb48 rfl)) ?_
  refine AL.val rfl (.inl rfl) (HV.len Try.underlying23 rfl hr.isSl) ?_
  refine AL.val rfl (.inl rfl) (HV.mv rfl) ?_
  refine AL.nx ?_
  refine AW.block ?_
  have ho50 := ho47.okk (ok' := fun b => H4.bd ≤ b ∧ b ≠ b24) (fun b hb _ => ⟨hb.1, by have := hb.2; omega⟩)
  refine AW.loop (σ := Nat × Value × List (List Int × List Int)) (fun ⟨i, vb, bs⟩ => [(1, vt), (2, .pointer (some ⟨b3, 0, none⟩)), (4, (.slice none 0 0)), (5, .bool false), (6, .pointer (some ⟨b24, 0, none⟩)), (7, (.func (.func 138) #[] #[.pointer (some ⟨b24, 0, none⟩), .pointer (some ⟨b3, 0, none⟩)])), (17, v), (18, .int .i64 (l.length : Int)), (19, .int .i64 (i : Int))]) (fun ⟨i, vb, bs⟩ H' => Ext H H' ∧ Ext H4 H' ∧ At W H' b3 ⟨29, [.int .i64 p, .int .i64 k, v], 3⟩ ∧ i ≤ l.length ∧ bs = basisM p l i ∧ At W H' b24 ⟨164, [vb], 1⟩ ∧ OwnK (kP (kR kI) (kR kI)) 166 W H' (fun b => H4.bd ≤ b ∧ b ≠ b24) vb bs ∧ True) (fun ⟨i, vb, bs⟩ => l.length - i) (0, v14, []) ⟨X42, X43, hb48, Nat.zero_le _, rfl, hb49, ho50, trivial⟩ ⟨rfl, rfl, rfl, rfl, rfl, rfl, rfl, rfl, rfl, trivial⟩ ?_
  rintro ⟨i, vb, bs⟩ H51 ⟨X52, X53, hb54, hi, hbs, hb6, hoB, _⟩
  have X55 := Ext.refl H51
  have hbk := bas_k hq hrc i hi
  rw [← hbs] at hbk
  have hbl := basis_len (p := p) (rows := l) i
  rw [← hbs] at hbl
  have hoBc := hoB.okk (ok' := fun b => (H4.bd ≤ b ∧ b ≠ b24) ∧ b < H51.bd) (fun b hb hlt => ⟨hb, hlt⟩)
  have yy_b3 := hb54.lt
  have yy_b24 := hb6.lt
  refine AW.rs ?_
  refine AL.val rfl (.inl rfl) (HV.lti rfl rfl) ?_
  refine AL.nx ?_
  refine AW.seq ?_
  refine AW.ifd rfl (fun c56 => ?_) (fun c56 => ?_)
  · -- then
    refine AW.skip ?_
    refine nrm_and ?_
    refine AW.seq ?_
    refine AW.block ?_
    refine AW.rs ?_
    refine AL.val rfl (.inl rfl) (HV.mv rfl) ?_
    obtain ⟨p57, z58, cs59, hz60, hK61, hC62, hP63⟩ := RdK.ix (q := (i : Int)) hr sl23 (by omega) (by omega)
    obtain ⟨v64, rfl, hr65⟩ := hK61
    have hm66 := hr65.max
    refine AL.val rfl (.inl rfl) (hP63 rfl rfl) ?_
    refine AL.val rfl (.inl rfl) (HV.ld rfl va22 (cells_first (hC62.ext X52) rfl)) ?_
    refine AL.val rfl (.inl rfl) (HV.as rfl) ?_
    refine AL.val rfl (.inl rfl) (HV.as rfl) ?_
    refine AL.nx ?_
    refine AW.cut (fun E1_ H1_ => ∃ (u1 u2 : Value) (b10 : Nat), Ext H51 H1_ ∧ H51.bd ≤ b10 ∧ At W H1_ b10 ⟨166, [u1, u2], 2⟩ ∧ OwnK kI 2 W H1_ (fun b => H51.bd ≤ b ∧ some b = u1.ownBlock) u1 z58 ∧ OwnK kI 2 W H1_ (fun b => H51.bd ≤ b ∧ some b = u2.ownBlock) u2 (List.replicate l.length 0) ∧ (∀ b, some b = u1.ownBlock → some b = u2.ownBlock → False) ∧ (∀ b, some b = u1.ownBlock → b = b10 → False) ∧ (∀ b, some b = u2.ownBlock → b = b10 → False) ∧ sub [(1, vt), (2, .pointer (some ⟨b3, 0, none⟩)), (4, (.slice none 0 0)), (5, .bool false), (6, .pointer (some ⟨b24, 0, none⟩)), (7, (.func (.func 138) #[] #[.pointer (some ⟨b24, 0, none⟩), .pointer (some ⟨b3, 0, none⟩)])), (8, .int .i64 (i : Int)), (9, v64), (17, v), (18, .int .i64 (l.length : Int)), (19, .int .i64 (i : Int)), (20, .bool (decide ((i : Int) < (l.length : Int)))), (21, .int .i64 (i : Int)), (22, .pointer (some p57)), (23, v64), (10, .pointer (some ⟨b10, 0, none⟩))] E1_) ?_ ?_
    · -- the region
      refine AW.draw' [0, 1, 0, 4, 12, 28, 63, 0, 255] mixed (by rfl) ?_
      refine Dr.read 0 _ 24 _ rfl rfl rfl rfl rfl (RV.of (by intro _ _ h; cases h) (.inl rfl) (fun _ xd => HV.mv rfl)) ?_
      refine Dr.read 2 _ 26 _ rfl rfl rfl rfl rfl (RV.of (by intro _ _ h; cases h) (.inl rfl) (fun _ xd => HV.fa fl29_2 rfl)) ?_
      refine Dr.read 3 _ 27 _ rfl rfl rfl rfl rfl (RV.of (by intro _ _ h; cases h) (.inl rfl) (fun _ xd => HV.ld rfl va23 (rdc_ext xd (at_cell_add (j := 2) hb54 rfl)))) ?_
      refine Dr.read 4 _ 28 _ rfl rfl rfl rfl rfl (RV.of (by intro _ _ h; cases h) (.inl rfl) (fun _ xd => HV.len Try.underlying23 rfl hr.isSl)) ?_
      have y67 := hb54.lt
      have y68 := hb6.lt
      have o69 := X52.bd
      have o70 := X53.bd
      have o71 := X55.bd
      have a72 := hoBc.ltb
      have y77 := hb54.lt
      have y78 := hb6.lt
      have o79 := X52.bd
      have o80 := X53.bd
      have o81 := X55.bd
      have a82 := hoBc.ltb
      refine Dr.eff3 1 5 7 _ _ _ _ _ _  rfl rfl rfl  (by intro d h; cases h; exact ⟨rfl, rfl⟩) (by intro d h; cases h; exact ⟨rfl, rfl⟩) (by intro d h; cases h; exact ⟨rfl, rfl⟩) rfl rfl rfl  rfl rfl rfl rfl  (EC.of (by intro _ _ h; cases h) (.inl rfl) (WV.call fn87 rfl (cloneI_ok (hr65.ext X52) (by have := rect_at hrc hz60; omega)))) (EC.of (by intro _ _ h; cases h) (.inl rfl) (WV.mkK (K := kI) (0 : Int) (fun _ _ _ => rfl) sl22 rfl rfl rfl (by omega) (by omega) (by omega))) (EC.of (by intro _ _ h; cases h) (.inl rfl) (WV.al ze166 rfl)) (fun v H' h => .inl (h.1)) (fun v H' h => .inl (h.1)) (fun v H' h => .inl (h.choose_spec.2.1)) ?_ ?_ ?_ 
      · -- 1 first
        have y92 := hb54.lt
        have y93 := hb6.lt
        have o94 := X52.bd
        have o95 := X53.bd
        have o96 := X55.bd
        have a97 := hoBc.ltb
        rintro v98 H99 ⟨hx100, ho101⟩
        have X102 := Ext.trans X52 hx100
        have X103 := Ext.trans X53 hx100
        have X104 := Ext.trans X55 hx100
        have ho105 := hoBc.ext hx100
        have hb106 := hb54.ext hx100
        have hb107 := hb6.ext hx100
        have X109 := Ext.refl H99
        have y110 := hb106.lt
        have y111 := hb107.lt
        have o112 := X102.bd
        have o113 := X103.bd
        have o114 := X104.bd
        have o115 := X109.bd
        have a116 := ho105.ltb
        have a117 := ho101.ltb
        have X122 := Ext.refl H99
        have ho123 := ho101.okk (ok' := fun b => H51.bd ≤ b ∧ b < H99.bd) (fun b hb hlt => ⟨hb, hlt⟩)
        refine Dr.eff2 5 7 _ _ _ _  rfl rfl  (by intro d h; cases h; exact ⟨rfl, rfl⟩) (by intro d h; cases h; exact ⟨rfl, rfl⟩) rfl rfl  rfl rfl rfl  (EC.of (by intro _ _ h; cases h) (.inl rfl) (WV.mkK (K := kI) (0 : Int) (fun _ _ _ => rfl) sl22 rfl rfl rfl (by omega) (by omega) (by omega))) (EC.of (by intro _ _ h; cases h) (.inl rfl) (WV.al ze166 rfl)) (fun v H' h => .inl (h.1)) (fun v H' h => .inl (h.choose_spec.2.1)) ?_ ?_ 
        · -- 5 first
          have X129 := Ext.refl H99
          have y130 := hb106.lt
          have y131 := hb107.lt
          have o132 := X102.bd
          have o133 := X103.bd
          have o134 := X104.bd
          have o135 := X129.bd
          have a136 := ho105.ltb
          have a137 := ho101.ltb
          rintro v138 H139 ⟨hx140, ho141⟩
          have X142 := Ext.trans X102 hx140
          have X143 := Ext.trans X103 hx140
          have X144 := Ext.trans X104 hx140
          have X145 := Ext.trans X129 hx140
          have ho146 := ho105.ext hx140
          have ho147 := ho101.ext hx140
          have hb148 := hb106.ext hx140
          have hb149 := hb107.ext hx140
          refine Dr.read 6 _ 30 _ rfl rfl rfl rfl rfl (RV.of (by intro _ _ h; cases h) (.inl rfl) (fun _ xd => HV.bd rfl (bd166_0_1 ho147.rd.isSl ho141.rd.isSl))) ?_
          have X151 := Ext.refl H139
          have ho152 := ho147.okk (ok' := fun b => H51.bd ≤ b ∧ b < H139.bd) (fun b hb hlt => ⟨hb, hlt⟩)
          have ho153 := ho141.okk (ok' := fun b => H99.bd ≤ b ∧ b < H139.bd) (fun b hb hlt => ⟨hb, hlt⟩)
          refine Dr.eff 7 _ _ rfl (by intro d h; cases h; exact ⟨rfl, rfl⟩) rfl rfl rfl (EC.of (by intro _ _ h; cases h) (.inl rfl) (WV.al ze166 rfl)) (fun v H' h => .inl (h.choose_spec.2.1)) ?_
          rintro _ H155 ⟨b154, rfl, hx156, hn157, hb158⟩
          have o159 := Nat.le_trans X142.bd hn157
          have o160 := Nat.le_trans X143.bd hn157
          have o161 := Nat.le_trans X144.bd hn157
          have o162 := Nat.le_trans X145.bd hn157
          have o163 := Nat.le_trans X151.bd hn157
          have ne164 : b3 ≠ b154 := by have := hb148.lt; omega
          have ne165 : b24 ≠ b154 := by have := hb149.lt; omega
          have X166 := Ext.trans X142 hx156
          have X167 := Ext.trans X143 hx156
          have X168 := Ext.trans X144 hx156
          have X169 := Ext.trans X145 hx156
          have X170 := Ext.trans X151 hx156
          have ho171 := ho146.ext hx156
          have ho172 := ho152.ext hx156
          have ho173 := ho153.ext hx156
          have hb174 := hb148.ext hx156
          have hb175 := hb149.ext hx156
          have X176 := Ext.refl H155
          refine Dr.eff 8 _ _ rfl (by intro d h; cases h) rfl rfl rfl (EC.of (by intro _ _ h; cases h) (.inl rfl) (WV.st rfl rfl va166 rfl hb158 (Nat.le_of_ble_eq_true rfl) (one_cons (sl_one1 ho172.rd.isSl) (one_cons (sl_one1 ho173.rd.isSl) one_nil)))) (fun v H' h => .inr (.inl rfl)) ?_
          rintro _ H177 ⟨hx178, hb179⟩
          have X180 := Ext.thru X166 hx178 (fun z_ hz_ => by rw [hz_]; exact o159)
          have X181 := Ext.thru X167 hx178 (fun z_ hz_ => by rw [hz_]; exact o160)
          have X182 := Ext.thru X168 hx178 (fun z_ hz_ => by rw [hz_]; exact o161)
          have X183 := Ext.thru X169 hx178 (fun z_ hz_ => by rw [hz_]; exact o162)
          have X184 := Ext.thru X170 hx178 (fun z_ hz_ => by rw [hz_]; exact o163)
          have q186 := Nat.le_trans X176.bd hx178.bd
          have ho187 := ho171.but hx178 (fun b hb _ e => by have hb' : (H4.bd ≤ b ∧ b ≠ b24) ∧ b < H51.bd := hb; have e' : b = b154 := e; omega) (fun z_ hz_ => by rw [hz_]; exact hb158.w)
          have ho188 := ho172.but hx178 (fun b hb _ e => by have hb' : H51.bd ≤ b ∧ b < H139.bd := hb; have e' : b = b154 := e; omega) (fun z_ hz_ => by rw [hz_]; exact hb158.w)
          have ho189 := ho173.but hx178 (fun b hb _ e => by have hb' : H99.bd ≤ b ∧ b < H139.bd := hb; have e' : b = b154 := e; omega) (fun z_ hz_ => by rw [hz_]; exact hb158.w)
          have hb190 := hb174.but hx178 ne164
          have hb191 := hb175.but hx178 ne165
          have hb192 : At W H177 b154 ⟨166, [v98, v138], 2⟩ := hb179
          refine Dr.fin rfl ?_
          exact nrm_and ⟨v98, v138, b154, X182, o161, hb192, (OwnK.narrow kI_flat ho188 (fun b q => ⟨Nat.le_trans o96 (ho188.blk b q).1.1, q⟩)), (OwnK.narrow kI_flat ho189 (fun b q => ⟨Nat.le_trans o134 (ho189.blk b q).1.1, q⟩)), (fun b h1 h2 => by have a1 := a137 b h1; have a2 : H99.bd ≤ b ∧ b < H139.bd := (ho189.blk b h2).1; omega), (show ∀ b, some b = v98.ownBlock → b = b154 → False from fun b h1 e => by have a1 : H51.bd ≤ b ∧ b < H139.bd := (ho188.blk b h1).1; omega), (show ∀ b, some b = v138.ownBlock → b = b154 → False from fun b h1 e => by have a1 : H99.bd ≤ b ∧ b < H139.bd := (ho189.blk b h1).1; omega), rfl, rfl, rfl, rfl, rfl, rfl, rfl, rfl, rfl, rfl, rfl, rfl, rfl, rfl, rfl, rfl, trivial⟩
        · -- 7 first
          have X193 := Ext.refl H99
          have ho194 := ho101.okk (ok' := fun b => H51.bd ≤ b ∧ b < H99.bd) (fun b hb hlt => ⟨hb, hlt⟩)
          rintro _ H196 ⟨b195, rfl, hx197, hn198, hb199⟩
          have o200 := Nat.le_trans X102.bd hn198
          have o201 := Nat.le_trans X103.bd hn198
          have o202 := Nat.le_trans X104.bd hn198
          have o203 := Nat.le_trans X193.bd hn198
          have ne204 : b3 ≠ b195 := by have := hb106.lt; omega
          have ne205 : b24 ≠ b195 := by have := hb107.lt; omega
          have X206 := Ext.trans X102 hx197
          have X207 := Ext.trans X103 hx197
          have X208 := Ext.trans X104 hx197
          have X209 := Ext.trans X193 hx197
          have ho210 := ho105.ext hx197
          have ho211 := ho194.ext hx197
          have hb212 := hb106.ext hx197
          have hb213 := hb107.ext hx197
          have X214 := Ext.refl H196
          have y215 := hb212.lt
          have y216 := hb213.lt
          have y217 := hb199.lt
          have o218 := X206.bd
          have o219 := X207.bd
          have o220 := X208.bd
          have o221 := X209.bd
          have o222 := X214.bd
          have a223 := ho210.ltb
          have a224 := ho211.ltb
          refine Dr.eff 5 _ _ rfl (by intro d h; cases h; exact ⟨rfl, rfl⟩) rfl rfl rfl (EC.of (by intro _ _ h; cases h) (.inl rfl) (WV.mkK (K := kI) (0 : Int) (fun _ _ _ => rfl) sl22 rfl rfl rfl (by omega) (by omega) (by omega))) (fun v H' h => .inl (h.1)) ?_
          rintro v225 H226 ⟨hx227, ho228⟩
          have X229 := Ext.trans X206 hx227
          have X230 := Ext.trans X207 hx227
          have X231 := Ext.trans X208 hx227
          have X232 := Ext.trans X209 hx227
          have X233 := Ext.trans X214 hx227
          have ho234 := ho210.ext hx227
          have ho235 := ho211.ext hx227
          have hb236 := hb212.ext hx227
          have hb237 := hb213.ext hx227
          have hb238 := hb199.ext hx227
          refine Dr.read 6 _ 30 _ rfl rfl rfl rfl rfl (RV.of (by intro _ _ h; cases h) (.inl rfl) (fun _ xd => HV.bd rfl (bd166_0_1 ho235.rd.isSl ho228.rd.isSl))) ?_
          refine Dr.eff 8 _ _ rfl (by intro d h; cases h) rfl rfl rfl (EC.of (by intro _ _ h; cases h) (.inl rfl) (WV.st rfl rfl va166 rfl hb238 (Nat.le_of_ble_eq_true rfl) (one_cons (sl_one1 ho235.rd.isSl) (one_cons (sl_one1 ho228.rd.isSl) one_nil)))) (fun v H' h => .inr (.inl rfl)) ?_
          rintro _ H240 ⟨hx241, hb242⟩
          have X243 := Ext.thru X229 hx241 (fun z_ hz_ => by rw [hz_]; exact o200)
          have X244 := Ext.thru X230 hx241 (fun z_ hz_ => by rw [hz_]; exact o201)
          have X245 := Ext.thru X231 hx241 (fun z_ hz_ => by rw [hz_]; exact o202)
          have X246 := Ext.thru X232 hx241 (fun z_ hz_ => by rw [hz_]; exact o203)
          have q248 := Nat.le_trans X233.bd hx241.bd
          have ho249 := ho234.but hx241 (fun b hb _ e => by have hb' : (H4.bd ≤ b ∧ b ≠ b24) ∧ b < H51.bd := hb; have e' : b = b195 := e; omega) (fun z_ hz_ => by rw [hz_]; exact hb238.w)
          have ho250 := ho235.but hx241 (fun b hb _ e => by have hb' : H51.bd ≤ b ∧ b < H99.bd := hb; have e' : b = b195 := e; omega) (fun z_ hz_ => by rw [hz_]; exact hb238.w)
          have ho251 := ho228.but hx241 (fun b hb _ e => by have hb' : H196.bd ≤ b := hb; have e' : b = b195 := e; omega) (fun z_ hz_ => by rw [hz_]; exact hb238.w)
          have hb252 := hb236.but hx241 ne204
          have hb253 := hb237.but hx241 ne205
          have hb254 : At W H240 b195 ⟨166, [v98, v225], 2⟩ := hb242
          refine Dr.fin rfl ?_
          exact nrm_and ⟨v98, v225, b195, X245, o202, hb254, (OwnK.narrow kI_flat ho250 (fun b q => ⟨Nat.le_trans o96 (ho250.blk b q).1.1, q⟩)), (OwnK.narrow kI_flat ho251 (fun b q => ⟨Nat.le_trans o220 (ho251.blk b q).1, q⟩)), (fun b h1 h2 => by have a1 := a224 b h1; have a2 : H196.bd ≤ b := (ho251.blk b h2).1; omega), (show ∀ b, some b = v98.ownBlock → b = b195 → False from fun b h1 e => by have a1 : H51.bd ≤ b ∧ b < H99.bd := (ho250.blk b h1).1; omega), (show ∀ b, some b = v225.ownBlock → b = b195 → False from fun b h1 e => by have a1 : H196.bd ≤ b := (ho251.blk b h1).1; omega), rfl, rfl, rfl, rfl, rfl, rfl, rfl, rfl, rfl, rfl, rfl, rfl, rfl, rfl, rfl, rfl, trivial⟩
      · -- 5 first
        have y255 := hb54.lt
        have y256 := hb6.lt
        have o257 := X52.bd
        have o258 := X53.bd
        have o259 := X55.bd
        have a260 := hoBc.ltb
        rintro v261 H262 ⟨hx263, ho264⟩
        have X265 := Ext.trans X52 hx263
        have X266 := Ext.trans X53 hx263
        have X267 := Ext.trans X55 hx263
        have ho268 := hoBc.ext hx263
        have hb269 := hb54.ext hx263
        have hb270 := hb6.ext hx263
        have X272 := Ext.refl H262
        have y273 := hb269.lt
        have y274 := hb270.lt
        have o275 := X265.bd
        have o276 := X266.bd
        have o277 := X267.bd
        have o278 := X272.bd
        have a279 := ho268.ltb
        have a280 := ho264.ltb
        have X285 := Ext.refl H262
        have ho286 := ho264.okk (ok' := fun b => H51.bd ≤ b ∧ b < H262.bd) (fun b hb hlt => ⟨hb, hlt⟩)
        refine Dr.eff2 1 7 _ _ _ _  rfl rfl  (by intro d h; cases h; exact ⟨rfl, rfl⟩) (by intro d h; cases h; exact ⟨rfl, rfl⟩) rfl rfl  rfl rfl rfl  (EC.of (by intro _ _ h; cases h) (.inl rfl) (WV.call fn87 rfl (cloneI_ok (hr65.ext X265) (by have := rect_at hrc hz60; omega)))) (EC.of (by intro _ _ h; cases h) (.inl rfl) (WV.al ze166 rfl)) (fun v H' h => .inl (h.1)) (fun v H' h => .inl (h.choose_spec.2.1)) ?_ ?_ 
        · -- 1 first
          have X292 := Ext.refl H262
          have y293 := hb269.lt
          have y294 := hb270.lt
          have o295 := X265.bd
          have o296 := X266.bd
          have o297 := X267.bd
          have o298 := X292.bd
          have a299 := ho268.ltb
          have a300 := ho264.ltb
          rintro v301 H302 ⟨hx303, ho304⟩
          have X305 := Ext.trans X265 hx303
          have X306 := Ext.trans X266 hx303
          have X307 := Ext.trans X267 hx303
          have X308 := Ext.trans X292 hx303
          have ho309 := ho268.ext hx303
          have ho310 := ho264.ext hx303
          have hb311 := hb269.ext hx303
          have hb312 := hb270.ext hx303
          refine Dr.read 6 _ 30 _ rfl rfl rfl rfl rfl (RV.of (by intro _ _ h; cases h) (.inl rfl) (fun _ xd => HV.bd rfl (bd166_0_1 ho304.rd.isSl ho310.rd.isSl))) ?_
          have X314 := Ext.refl H302
          have ho315 := ho310.okk (ok' := fun b => H51.bd ≤ b ∧ b < H302.bd) (fun b hb hlt => ⟨hb, hlt⟩)
          have ho316 := ho304.okk (ok' := fun b => H262.bd ≤ b ∧ b < H302.bd) (fun b hb hlt => ⟨hb, hlt⟩)
          refine Dr.eff 7 _ _ rfl (by intro d h; cases h; exact ⟨rfl, rfl⟩) rfl rfl rfl (EC.of (by intro _ _ h; cases h) (.inl rfl) (WV.al ze166 rfl)) (fun v H' h => .inl (h.choose_spec.2.1)) ?_
          rintro _ H318 ⟨b317, rfl, hx319, hn320, hb321⟩
          have o322 := Nat.le_trans X305.bd hn320
          have o323 := Nat.le_trans X306.bd hn320
          have o324 := Nat.le_trans X307.bd hn320
          have o325 := Nat.le_trans X308.bd hn320
          have o326 := Nat.le_trans X314.bd hn320
          have ne327 : b3 ≠ b317 := by have := hb311.lt; omega
          have ne328 : b24 ≠ b317 := by have := hb312.lt; omega
          have X329 := Ext.trans X305 hx319
          have X330 := Ext.trans X306 hx319
          have X331 := Ext.trans X307 hx319
          have X332 := Ext.trans X308 hx319
          have X333 := Ext.trans X314 hx319
          have ho334 := ho309.ext hx319
          have ho335 := ho315.ext hx319
          have ho336 := ho316.ext hx319
          have hb337 := hb311.ext hx319
          have hb338 := hb312.ext hx319
          have X339 := Ext.refl H318
          refine Dr.eff 8 _ _ rfl (by intro d h; cases h) rfl rfl rfl (EC.of (by intro _ _ h; cases h) (.inl rfl) (WV.st rfl rfl va166 rfl hb321 (Nat.le_of_ble_eq_true rfl) (one_cons (sl_one1 ho336.rd.isSl) (one_cons (sl_one1 ho335.rd.isSl) one_nil)))) (fun v H' h => .inr (.inl rfl)) ?_
          rintro _ H340 ⟨hx341, hb342⟩
          have X343 := Ext.thru X329 hx341 (fun z_ hz_ => by rw [hz_]; exact o322)
          have X344 := Ext.thru X330 hx341 (fun z_ hz_ => by rw [hz_]; exact o323)
          have X345 := Ext.thru X331 hx341 (fun z_ hz_ => by rw [hz_]; exact o324)
          have X346 := Ext.thru X332 hx341 (fun z_ hz_ => by rw [hz_]; exact o325)
          have X347 := Ext.thru X333 hx341 (fun z_ hz_ => by rw [hz_]; exact o326)
          have q349 := Nat.le_trans X339.bd hx341.bd
          have ho350 := ho334.but hx341 (fun b hb _ e => by have hb' : (H4.bd ≤ b ∧ b ≠ b24) ∧ b < H51.bd := hb; have e' : b = b317 := e; omega) (fun z_ hz_ => by rw [hz_]; exact hb321.w)
          have ho351 := ho335.but hx341 (fun b hb _ e => by have hb' : H51.bd ≤ b ∧ b < H302.bd := hb; have e' : b = b317 := e; omega) (fun z_ hz_ => by rw [hz_]; exact hb321.w)
          have ho352 := ho336.but hx341 (fun b hb _ e => by have hb' : H262.bd ≤ b ∧ b < H302.bd := hb; have e' : b = b317 := e; omega) (fun z_ hz_ => by rw [hz_]; exact hb321.w)
          have hb353 := hb337.but hx341 ne327
          have hb354 := hb338.but hx341 ne328
          have hb355 : At W H340 b317 ⟨166, [v301, v261], 2⟩ := hb342
          refine Dr.fin rfl ?_
          exact nrm_and ⟨v301, v261, b317, X345, o324, hb355, (OwnK.narrow kI_flat ho352 (fun b q => ⟨Nat.le_trans o297 (ho352.blk b q).1.1, q⟩)), (OwnK.narrow kI_flat ho351 (fun b q => ⟨Nat.le_trans o259 (ho351.blk b q).1.1, q⟩)), (fun b h1 h2 => by have a1 := a300 b h2; have a2 : H262.bd ≤ b ∧ b < H302.bd := (ho352.blk b h1).1; omega), (show ∀ b, some b = v301.ownBlock → b = b317 → False from fun b h1 e => by have a1 : H262.bd ≤ b ∧ b < H302.bd := (ho352.blk b h1).1; omega), (show ∀ b, some b = v261.ownBlock → b = b317 → False from fun b h1 e => by have a1 : H51.bd ≤ b ∧ b < H302.bd := (ho351.blk b h1).1; omega), rfl, rfl, rfl, rfl, rfl, rfl, rfl, rfl, rfl, rfl, rfl, rfl, rfl, rfl, rfl, rfl, trivial⟩
        · -- 7 first
          have X356 := Ext.refl H262
          have ho357 := ho264.okk (ok' := fun b => H51.bd ≤ b ∧ b < H262.bd) (fun b hb hlt => ⟨hb, hlt⟩)
          rintro _ H359 ⟨b358, rfl, hx360, hn361, hb362⟩
          have o363 := Nat.le_trans X265.bd hn361
          have o364 := Nat.le_trans X266.bd hn361
          have o365 := Nat.le_trans X267.bd hn361
          have o366 := Nat.le_trans X356.bd hn361
          have ne367 : b3 ≠ b358 := by have := hb269.lt; omega
          have ne368 : b24 ≠ b358 := by have := hb270.lt; omega
          have X369 := Ext.trans X265 hx360
          have X370 := Ext.trans X266 hx360
          have X371 := Ext.trans X267 hx360
          have X372 := Ext.trans X356 hx360
          have ho373 := ho268.ext hx360
          have ho374 := ho357.ext hx360
          have hb375 := hb269.ext hx360
          have hb376 := hb270.ext hx360
          have X377 := Ext.refl H359
          have y378 := hb375.lt
          have y379 := hb376.lt
          have y380 := hb362.lt
          have o381 := X369.bd
          have o382 := X370.bd
          have o383 := X371.bd
          have o384 := X372.bd
          have o385 := X377.bd
          have a386 := ho373.ltb
          have a387 := ho374.ltb
          refine Dr.eff 1 _ _ rfl (by intro d h; cases h; exact ⟨rfl, rfl⟩) rfl rfl rfl (EC.of (by intro _ _ h; cases h) (.inl rfl) (WV.call fn87 rfl (cloneI_ok (hr65.ext X369) (by have := rect_at hrc hz60; omega)))) (fun v H' h => .inl (h.1)) ?_
          rintro v388 H389 ⟨hx390, ho391⟩
          have X392 := Ext.trans X369 hx390
          have X393 := Ext.trans X370 hx390
          have X394 := Ext.trans X371 hx390
          have X395 := Ext.trans X372 hx390
          have X396 := Ext.trans X377 hx390
          have ho397 := ho373.ext hx390
          have ho398 := ho374.ext hx390
          have hb399 := hb375.ext hx390
          have hb400 := hb376.ext hx390
          have hb401 := hb362.ext hx390
          refine Dr.read 6 _ 30 _ rfl rfl rfl rfl rfl (RV.of (by intro _ _ h; cases h) (.inl rfl) (fun _ xd => HV.bd rfl (bd166_0_1 ho391.rd.isSl ho398.rd.isSl))) ?_
          refine Dr.eff 8 _ _ rfl (by intro d h; cases h) rfl rfl rfl (EC.of (by intro _ _ h; cases h) (.inl rfl) (WV.st rfl rfl va166 rfl hb401 (Nat.le_of_ble_eq_true rfl) (one_cons (sl_one1 ho391.rd.isSl) (one_cons (sl_one1 ho398.rd.isSl) one_nil)))) (fun v H' h => .inr (.inl rfl)) ?_
          rintro _ H403 ⟨hx404, hb405⟩
          have X406 := Ext.thru X392 hx404 (fun z_ hz_ => by rw [hz_]; exact o363)
          have X407 := Ext.thru X393 hx404 (fun z_ hz_ => by rw [hz_]; exact o364)
          have X408 := Ext.thru X394 hx404 (fun z_ hz_ => by rw [hz_]; exact o365)
          have X409 := Ext.thru X395 hx404 (fun z_ hz_ => by rw [hz_]; exact o366)
          have q411 := Nat.le_trans X396.bd hx404.bd
          have ho412 := ho397.but hx404 (fun b hb _ e => by have hb' : (H4.bd ≤ b ∧ b ≠ b24) ∧ b < H51.bd := hb; have e' : b = b358 := e; omega) (fun z_ hz_ => by rw [hz_]; exact hb401.w)
          have ho413 := ho398.but hx404 (fun b hb _ e => by have hb' : H51.bd ≤ b ∧ b < H262.bd := hb; have e' : b = b358 := e; omega) (fun z_ hz_ => by rw [hz_]; exact hb401.w)
          have ho414 := ho391.but hx404 (fun b hb _ e => by have hb' : H359.bd ≤ b := hb; have e' : b = b358 := e; omega) (fun z_ hz_ => by rw [hz_]; exact hb401.w)
          have hb415 := hb399.but hx404 ne367
          have hb416 := hb400.but hx404 ne368
          have hb417 : At W H403 b358 ⟨166, [v388, v261], 2⟩ := hb405
          refine Dr.fin rfl ?_
          exact nrm_and ⟨v388, v261, b358, X408, o365, hb417, (OwnK.narrow kI_flat ho414 (fun b q => ⟨Nat.le_trans o383 (ho414.blk b q).1, q⟩)), (OwnK.narrow kI_flat ho413 (fun b q => ⟨Nat.le_trans o259 (ho413.blk b q).1.1, q⟩)), (fun b h1 h2 => by have a1 := a387 b h2; have a2 : H359.bd ≤ b := (ho414.blk b h1).1; omega), (show ∀ b, some b = v388.ownBlock → b = b358 → False from fun b h1 e => by have a1 : H359.bd ≤ b := (ho414.blk b h1).1; omega), (show ∀ b, some b = v261.ownBlock → b = b358 → False from fun b h1 e => by have a1 : H51.bd ≤ b ∧ b < H262.bd := (ho413.blk b h1).1; omega), rfl, rfl, rfl, rfl, rfl, rfl, rfl, rfl, rfl, rfl, rfl, rfl, rfl, rfl, rfl, rfl, trivial⟩
      · -- 7 first
        rintro _ H419 ⟨b418, rfl, hx420, hn421, hb422⟩
        have o423 := Nat.le_trans X52.bd hn421
        have o424 := Nat.le_trans X53.bd hn421
        have o425 := Nat.le_trans X55.bd hn421
        have ne426 : b3 ≠ b418 := by have := hb54.lt; omega
        have ne427 : b24 ≠ b418 := by have := hb6.lt; omega
        have X428 := Ext.trans X52 hx420
        have X429 := Ext.trans X53 hx420
        have X430 := Ext.trans X55 hx420
        have ho431 := hoBc.ext hx420
        have hb432 := hb54.ext hx420
        have hb433 := hb6.ext hx420
        have X434 := Ext.refl H419
        have y435 := hb432.lt
        have y436 := hb433.lt
        have y437 := hb422.lt
        have o438 := X428.bd
        have o439 := X429.bd
        have o440 := X430.bd
        have o441 := X434.bd
        have a442 := ho431.ltb
        have y447 := hb432.lt
        have y448 := hb433.lt
        have y449 := hb422.lt
        have o450 := X428.bd
        have o451 := X429.bd
        have o452 := X430.bd
        have o453 := X434.bd
        have a454 := ho431.ltb
        refine Dr.eff2 1 5 _ _ _ _  rfl rfl  (by intro d h; cases h; exact ⟨rfl, rfl⟩) (by intro d h; cases h; exact ⟨rfl, rfl⟩) rfl rfl  rfl rfl rfl  (EC.of (by intro _ _ h; cases h) (.inl rfl) (WV.call fn87 rfl (cloneI_ok (hr65.ext X428) (by have := rect_at hrc hz60; omega)))) (EC.of (by intro _ _ h; cases h) (.inl rfl) (WV.mkK (K := kI) (0 : Int) (fun _ _ _ => rfl) sl22 rfl rfl rfl (by omega) (by omega) (by omega))) (fun v H' h => .inl (h.1)) (fun v H' h => .inl (h.1)) ?_ ?_ 
        · -- 1 first
          have y459 := hb432.lt
          have y460 := hb433.lt
          have y461 := hb422.lt
          have o462 := X428.bd
          have o463 := X429.bd
          have o464 := X430.bd
          have o465 := X434.bd
          have a466 := ho431.ltb
          rintro v467 H468 ⟨hx469, ho470⟩
          have X471 := Ext.trans X428 hx469
          have X472 := Ext.trans X429 hx469
          have X473 := Ext.trans X430 hx469
          have X474 := Ext.trans X434 hx469
          have ho475 := ho431.ext hx469
          have hb476 := hb432.ext hx469
          have hb477 := hb433.ext hx469
          have hb478 := hb422.ext hx469
          have X480 := Ext.refl H468
          have y481 := hb476.lt
          have y482 := hb477.lt
          have y483 := hb478.lt
          have o484 := X471.bd
          have o485 := X472.bd
          have o486 := X473.bd
          have o487 := X474.bd
          have o488 := X480.bd
          have a489 := ho475.ltb
          have a490 := ho470.ltb
          refine Dr.eff 5 _ _ rfl (by intro d h; cases h; exact ⟨rfl, rfl⟩) rfl rfl rfl (EC.of (by intro _ _ h; cases h) (.inl rfl) (WV.mkK (K := kI) (0 : Int) (fun _ _ _ => rfl) sl22 rfl rfl rfl (by omega) (by omega) (by omega))) (fun v H' h => .inl (h.1)) ?_
          rintro v491 H492 ⟨hx493, ho494⟩
          have X495 := Ext.trans X471 hx493
          have X496 := Ext.trans X472 hx493
          have X497 := Ext.trans X473 hx493
          have X498 := Ext.trans X474 hx493
          have X499 := Ext.trans X480 hx493
          have ho500 := ho475.ext hx493
          have ho501 := ho470.ext hx493
          have hb502 := hb476.ext hx493
          have hb503 := hb477.ext hx493
          have hb504 := hb478.ext hx493
          refine Dr.read 6 _ 30 _ rfl rfl rfl rfl rfl (RV.of (by intro _ _ h; cases h) (.inl rfl) (fun _ xd => HV.bd rfl (bd166_0_1 ho501.rd.isSl ho494.rd.isSl))) ?_
          refine Dr.eff 8 _ _ rfl (by intro d h; cases h) rfl rfl rfl (EC.of (by intro _ _ h; cases h) (.inl rfl) (WV.st rfl rfl va166 rfl hb504 (Nat.le_of_ble_eq_true rfl) (one_cons (sl_one1 ho501.rd.isSl) (one_cons (sl_one1 ho494.rd.isSl) one_nil)))) (fun v H' h => .inr (.inl rfl)) ?_
          rintro _ H506 ⟨hx507, hb508⟩
          have X509 := Ext.thru X495 hx507 (fun z_ hz_ => by rw [hz_]; exact o423)
          have X510 := Ext.thru X496 hx507 (fun z_ hz_ => by rw [hz_]; exact o424)
          have X511 := Ext.thru X497 hx507 (fun z_ hz_ => by rw [hz_]; exact o425)
          have q513 := Nat.le_trans X498.bd hx507.bd
          have q515 := Nat.le_trans X499.bd hx507.bd
          have ho516 := ho500.but hx507 (fun b hb _ e => by have hb' : (H4.bd ≤ b ∧ b ≠ b24) ∧ b < H51.bd := hb; have e' : b = b418 := e; omega) (fun z_ hz_ => by rw [hz_]; exact hb504.w)
          have ho517 := ho501.but hx507 (fun b hb _ e => by have hb' : H419.bd ≤ b := hb; have e' : b = b418 := e; omega) (fun z_ hz_ => by rw [hz_]; exact hb504.w)
          have ho518 := ho494.but hx507 (fun b hb _ e => by have hb' : H468.bd ≤ b := hb; have e' : b = b418 := e; omega) (fun z_ hz_ => by rw [hz_]; exact hb504.w)
          have hb519 := hb502.but hx507 ne426
          have hb520 := hb503.but hx507 ne427
          have hb521 : At W H506 b418 ⟨166, [v467, v491], 2⟩ := hb508
          refine Dr.fin rfl ?_
          exact nrm_and ⟨v467, v491, b418, X511, o425, hb521, (OwnK.narrow kI_flat ho517 (fun b q => ⟨Nat.le_trans o464 (ho517.blk b q).1, q⟩)), (OwnK.narrow kI_flat ho518 (fun b q => ⟨Nat.le_trans o486 (ho518.blk b q).1, q⟩)), (fun b h1 h2 => by have a1 := a490 b h1; have a2 : H468.bd ≤ b := (ho518.blk b h2).1; omega), (show ∀ b, some b = v467.ownBlock → b = b418 → False from fun b h1 e => by have a1 : H419.bd ≤ b := (ho517.blk b h1).1; omega), (show ∀ b, some b = v491.ownBlock → b = b418 → False from fun b h1 e => by have a1 : H468.bd ≤ b := (ho518.blk b h1).1; omega), rfl, rfl, rfl, rfl, rfl, rfl, rfl, rfl, rfl, rfl, rfl, rfl, rfl, rfl, rfl, rfl, trivial⟩
        · -- 5 first
          have y522 := hb432.lt
          have y523 := hb433.lt
          have y524 := hb422.lt
          have o525 := X428.bd
          have o526 := X429.bd
          have o527 := X430.bd
          have o528 := X434.bd
          have a529 := ho431.ltb
          rintro v530 H531 ⟨hx532, ho533⟩
          have X534 := Ext.trans X428 hx532
          have X535 := Ext.trans X429 hx532
          have X536 := Ext.trans X430 hx532
          have X537 := Ext.trans X434 hx532
          have ho538 := ho431.ext hx532
          have hb539 := hb432.ext hx532
          have hb540 := hb433.ext hx532
          have hb541 := hb422.ext hx532
          have X543 := Ext.refl H531
          have y544 := hb539.lt
          have y545 := hb540.lt
          have y546 := hb541.lt
          have o547 := X534.bd
          have o548 := X535.bd
          have o549 := X536.bd
          have o550 := X537.bd
          have o551 := X543.bd
          have a552 := ho538.ltb
          have a553 := ho533.ltb
          refine Dr.eff 1 _ _ rfl (by intro d h; cases h; exact ⟨rfl, rfl⟩) rfl rfl rfl (EC.of (by intro _ _ h; cases h) (.inl rfl) (WV.call fn87 rfl (cloneI_ok (hr65.ext X534) (by have := rect_at hrc hz60; omega)))) (fun v H' h => .inl (h.1)) ?_
          rintro v554 H555 ⟨hx556, ho557⟩
          have X558 := Ext.trans X534 hx556
          have X559 := Ext.trans X535 hx556
          have X560 := Ext.trans X536 hx556
          have X561 := Ext.trans X537 hx556
          have X562 := Ext.trans X543 hx556
          have ho563 := ho538.ext hx556
          have ho564 := ho533.ext hx556
          have hb565 := hb539.ext hx556
          have hb566 := hb540.ext hx556
          have hb567 := hb541.ext hx556
          refine Dr.read 6 _ 30 _ rfl rfl rfl rfl rfl (RV.of (by intro _ _ h; cases h) (.inl rfl) (fun _ xd => HV.bd rfl (bd166_0_1 ho557.rd.isSl ho564.rd.isSl))) ?_
          refine Dr.eff 8 _ _ rfl (by intro d h; cases h) rfl rfl rfl (EC.of (by intro _ _ h; cases h) (.inl rfl) (WV.st rfl rfl va166 rfl hb567 (Nat.le_of_ble_eq_true rfl) (one_cons (sl_one1 ho557.rd.isSl) (one_cons (sl_one1 ho564.rd.isSl) one_nil)))) (fun v H' h => .inr (.inl rfl)) ?_
          rintro _ H569 ⟨hx570, hb571⟩
          have X572 := Ext.thru X558 hx570 (fun z_ hz_ => by rw [hz_]; exact o423)
          have X573 := Ext.thru X559 hx570 (fun z_ hz_ => by rw [hz_]; exact o424)
          have X574 := Ext.thru X560 hx570 (fun z_ hz_ => by rw [hz_]; exact o425)
          have q576 := Nat.le_trans X561.bd hx570.bd
          have q578 := Nat.le_trans X562.bd hx570.bd
          have ho579 := ho563.but hx570 (fun b hb _ e => by have hb' : (H4.bd ≤ b ∧ b ≠ b24) ∧ b < H51.bd := hb; have e' : b = b418 := e; omega) (fun z_ hz_ => by rw [hz_]; exact hb567.w)
          have ho580 := ho564.but hx570 (fun b hb _ e => by have hb' : H419.bd ≤ b := hb; have e' : b = b418 := e; omega) (fun z_ hz_ => by rw [hz_]; exact hb567.w)
          have ho581 := ho557.but hx570 (fun b hb _ e => by have hb' : H531.bd ≤ b := hb; have e' : b = b418 := e; omega) (fun z_ hz_ => by rw [hz_]; exact hb567.w)
          have hb582 := hb565.but hx570 ne426
          have hb583 := hb566.but hx570 ne427
          have hb584 : At W H569 b418 ⟨166, [v554, v530], 2⟩ := hb571
          refine Dr.fin rfl ?_
          exact nrm_and ⟨v554, v530, b418, X574, o425, hb584, (OwnK.narrow kI_flat ho581 (fun b q => ⟨Nat.le_trans o549 (ho581.blk b q).1, q⟩)), (OwnK.narrow kI_flat ho580 (fun b q => ⟨Nat.le_trans o527 (ho580.blk b q).1, q⟩)), (fun b h1 h2 => by have a1 := a553 b h2; have a2 : H531.bd ≤ b := (ho581.blk b h1).1; omega), (show ∀ b, some b = v554.ownBlock → b = b418 → False from fun b h1 e => by have a1 : H531.bd ≤ b := (ho581.blk b h1).1; omega), (show ∀ b, some b = v530.ownBlock → b = b418 → False from fun b h1 e => by have a1 : H419.bd ≤ b := (ho580.blk b h1).1; omega), rfl, rfl, rfl, rfl, rfl, rfl, rfl, rfl, rfl, rfl, rfl, rfl, rfl, rfl, rfl, rfl, trivial⟩
    · -- behind it
      rintro E1_ H1_ ⟨u1, u2, b10, hXi, hib10, hb10, hu1, hu2, hd12, hd1b, hd2b, hsub⟩
      refine AW.le (E := [(1, vt), (2, .pointer (some ⟨b3, 0, none⟩)), (4, (.slice none 0 0)), (5, .bool false), (6, .pointer (some ⟨b24, 0, none⟩)), (7, (.func (.func 138) #[] #[.pointer (some ⟨b24, 0, none⟩), .pointer (some ⟨b3, 0, none⟩)])), (8, .int .i64 (i : Int)), (9, v64), (17, v), (18, .int .i64 (l.length : Int)), (19, .int .i64 (i : Int)), (20, .bool (decide ((i : Int) < (l.length : Int)))), (21, .int .i64 (i : Int)), (22, .pointer (some p57)), (23, v64), (10, .pointer (some ⟨b10, 0, none⟩))]) (H := H1_) ?_ hsub (Ext.refl _)
      have o585 := X52.bd
      have o586 := X53.bd
      have o587 := X55.bd
      have X588 := Ext.trans X52 hXi
      have X589 := Ext.trans X53 hXi
      have X590 := Ext.trans X55 hXi
      have ho591 := hoBc.ext hXi
      have hb592 := hb54.ext hXi
      have hb593 := hb6.ext hXi
      have X594 := Ext.refl H1_
      have ne595 : b3 ≠ b10 := by omega
      have ne596 : b24 ≠ b10 := by omega
      refine AW.rs ?_
      refine AL.val rfl (.inl rfl) (HV.fa fl166_1 rfl) ?_
      refine AL.val rfl (.inl rfl) (HV.ld rfl va22 (at_cell_add (j := 1) hb10 rfl)) ?_
      refine AL.val rfl (.inl rfl) (HV.mv rfl) ?_
      obtain ⟨g597, z598, cs599, hz600, hK601, hC602, hg603, hP604⟩ := OwnK.ix (q := (i : Int)) hu2 sl22 (by omega) (by simp; omega)
      obtain rfl : cs599 = [.int .i64 z598] := hK601
      refine AL.val rfl (.inl rfl) (hP604 rfl rfl) ?_
      refine AL.w0 (.inl rfl) (WV.stK (okx := fun _ => False) (x' := 1) hu2 hg603 rfl rfl va2 (by simp; omega) rfl (fun _ h => h.elim)) ?_
      rintro _ H605 ⟨hx606, ho607⟩
      have X608 := Ext.thru X588 hx606 (fun b hb => Nat.le_trans o585 (hu2.blk b hb).1.1)
      have X609 := Ext.thru X589 hx606 (fun b hb => Nat.le_trans o586 (hu2.blk b hb).1.1)
      have X610 := Ext.thru X590 hx606 (fun b hb => Nat.le_trans o587 (hu2.blk b hb).1.1)
      have q612 := Nat.le_trans X594.bd hx606.bd
      have ho613 := ho591.but hx606 (fun b hb _ e => by have h1 : (H4.bd ≤ b ∧ b ≠ b24) ∧ b < H51.bd := hb; have h2 : H51.bd ≤ b := (hu2.blk b e).1.1; omega) (fun b hb => (hu2.blk b hb).2.2)
      have ho614 := hu1.but hx606 (fun b h1 _ h2 => hd12 b h1.2 h2) (fun b hb => (hu2.blk b hb).2.2)
      have hb615 := hb592.but hx606 (fun e => by have q : H51.bd ≤ _ := (hu2.blk _ e).1.1; omega)
      have hb616 := hb593.but hx606 (fun e => by have q : H51.bd ≤ _ := (hu2.blk _ e).1.1; omega)
      have hb617 := hb10.but hx606 (fun e => hd2b _ e rfl)
      have ho618 := ho607.okk (ok' := fun b => H51.bd ≤ b ∧ some b = u2.ownBlock) (fun b hb _ => hb.elim id False.elim)
      refine AL.nx ?_
      refine AW.rs ?_
      refine AL.val rfl (.inl rfl) (HV.mv rfl) ?_
      refine AL.val rfl (.inl rfl) (HV.lda (cs := [u1, u2]) rfl va166 (at_cells hb617 rfl)) ?_
      refine AL.w rfl (.inl rfl) (WV.callv fn138 rfl rfl (less_ok (C := K) (m := l.length) hb616 hb615 hr.isSl ho613.rd ho614 ho618 (fun x h q => by have a1 : H51.bd ≤ x := Nat.le_trans o587 (ho614.blk x q).1.1; rcases h with h | h | h | h; omega; omega; (have h2 : x < H51.bd := h.2; omega); exact hd12 x q h) (fun x h q => by have a1 : H51.bd ≤ x := Nat.le_trans o587 (ho618.blk x q).1.1; rcases h with h | h | h | h; omega; omega; (have h2 : x < H51.bd := h.2; omega); exact hd12 x h q) hp hbk ⟨(rect_at hrc hz60).1, (rect_at hrc hz60).2, by simp, unitL_in (by omega) l.length i⟩ (by omega) (by omega))) ?_
      rintro _ H619 ⟨rfl, hx620, ho621, ho622⟩
      have X623 := Ext.thru X608 hx620 (fun b hb => hb.elim (fun q => Nat.le_trans o585 (ho614.blk b q).1.1) (fun q => Nat.le_trans o585 (ho618.blk b q).1.1))
      have X624 := Ext.thru X609 hx620 (fun b hb => hb.elim (fun q => Nat.le_trans o586 (ho614.blk b q).1.1) (fun q => Nat.le_trans o586 (ho618.blk b q).1.1))
      have X625 := Ext.thru X610 hx620 (fun b hb => hb.elim (fun q => Nat.le_trans o587 (ho614.blk b q).1.1) (fun q => Nat.le_trans o587 (ho618.blk b q).1.1))
      have q626 := Nat.le_trans q612 hx620.bd
      have hb627 := hb615.but hx620 (fun e => e.elim (fun q => by have a : H51.bd ≤ _ := Nat.le_trans o587 (ho614.blk _ q).1.1; omega) (fun q => by have a : H51.bd ≤ _ := Nat.le_trans o587 (ho618.blk _ q).1.1; omega))
      have hb628 := hb616.but hx620 (fun e => e.elim (fun q => by have a : H51.bd ≤ _ := Nat.le_trans o587 (ho614.blk _ q).1.1; omega) (fun q => by have a : H51.bd ≤ _ := Nat.le_trans o587 (ho618.blk _ q).1.1; omega))
      have hb629 := hb617.but hx620 (fun e => e.elim (fun q => hd1b _ q rfl) (fun q => hd2b _ q rfl))
      have ho630 := ho613.but hx620 (fun b hb _ e => e.elim (fun q => by have a : H51.bd ≤ b := Nat.le_trans o587 (ho614.blk b q).1.1; have a2 : b < H51.bd := hb.2; omega) (fun q => by have a : H51.bd ≤ b := Nat.le_trans o587 (ho618.blk b q).1.1; have a2 : b < H51.bd := hb.2; omega)) (fun b e => e.elim (fun q => (ho614.blk b q).2.2) (fun q => (ho618.blk b q).2.2))
      have X631 := Ext.refl H619
      obtain ⟨y, hy⟩ : ∃ y, y = (lessP p bs (z58, ((List.replicate l.length 0).set ((i : Int) : Int).toNat 1))) := ⟨_, rfl⟩
      rw [← hy] at ho621 ho622
      have hyK := lessP_K (p := p) (by omega) (C := K) (m := l.length) bs (x := (z58, ((List.replicate l.length 0).set ((i : Int) : Int).toNat 1))) ⟨(rect_at hrc hz60).1, (rect_at hrc hz60).2, by simp, unitL_in (by omega) l.length i⟩
      rw [← hy] at hyK
      have hy2 : lessP p bs (l.getD i [], unitL l.length i) = y := by rw [(gd hz60 rfl : l.getD i [] = z58)]; exact hy.symm
      refine AL.w0 (.inl rfl) (WV.st rfl rfl va166 rfl hb629 (Nat.le_of_ble_eq_true rfl) (one_cons (sl_one1 ho621.rd.isSl) (one_cons (sl_one1 ho622.rd.isSl) one_nil))) ?_
      rintro _ H632 ⟨hx633, hb634⟩
      have q635 := Nat.le_trans q626 hx633.bd
      have X636 := Ext.thru X623 hx633 (fun z_ hz_ => by rw [hz_]; exact (Nat.le_trans o585 hib10))
      have X637 := Ext.thru X624 hx633 (fun z_ hz_ => by rw [hz_]; exact (Nat.le_trans o586 hib10))
      have X638 := Ext.thru X625 hx633 (fun z_ hz_ => by rw [hz_]; exact (Nat.le_trans o587 hib10))
      have q640 := Nat.le_trans X631.bd hx633.bd
      have ho641 := ho630.but hx633 (fun b hb _ e => by have hb' : (H4.bd ≤ b ∧ b ≠ b24) ∧ b < H51.bd := hb; have e' : b = b10 := e; omega) (fun z_ hz_ => by rw [hz_]; exact hb629.w)
      have ho642 := ho621.but hx633 (fun b hb _ e => hd1b b hb.2 e) (fun z_ hz_ => by rw [hz_]; exact hb629.w)
      have ho643 := ho622.but hx633 (fun b hb _ e => hd2b b hb.2 e) (fun z_ hz_ => by rw [hz_]; exact hb629.w)
      have hb644 := hb627.but hx633 ne595
      have hb645 := hb628.but hx633 ne596
      have hb646 : At W H632 b10 ⟨166, [u1, u2], 2⟩ := hb634
      refine AL.nx ?_
      refine AW.rs ?_
      refine AL.val rfl (.inl rfl) (HV.fa fl166_0 rfl) ?_
      refine AL.val rfl (.inl rfl) (HV.ld rfl va22 (at_cell hb646 rfl)) ?_
      refine AL.w rfl (.inl rfl) (WV.call fn139 rfl (first_ok ho642.rd)) ?_
      rintro _ H647 ⟨rfl, hx648⟩
      have q649 := Nat.le_trans q635 hx648.bd
      have q650 := Nat.le_trans q640 hx648.bd
      have X651 := Ext.trans X636 hx648
      have X652 := Ext.trans X637 hx648
      have X653 := Ext.trans X638 hx648
      have ho654 := ho641.ext hx648
      have ho655 := ho642.ext hx648
      have ho656 := ho643.ext hx648
      have hb657 := hb644.ext hx648
      have hb658 := hb645.ext hx648
      have hb659 := hb646.ext hx648
      refine AL.val rfl (.inl rfl) (HV.as rfl) ?_
      refine AL.nx ?_
      refine AW.rs ?_
      refine AL.val rfl (.inl rfl) (HV.mv rfl) ?_
      refine AL.val rfl (.inl rfl) (HV.gei rfl rfl) ?_
      refine AL.nx ?_
      refine AW.ifd rfl (fun c660 => ?_) (fun c660 => ?_)
      · -- then
        refine AW.seq ?_
        refine AW.draw' [0, 1, 0, 4, 0, 28, 60, 127, 255] mixed (by rfl) ?_
        obtain ⟨jf, hj1, hj2, hj3, hj4⟩ := firstI_pos (l := y.1) (by omega)
        have hjb := getD_in hyK.2.1 (show 0 < p by omega) jf
        refine Dr.read 0 _ 43 _ rfl rfl rfl rfl rfl (RV.of (by intro _ _ h; cases h) (.inl rfl) (fun _ xd => HV.fa fl29_0 rfl)) ?_
        refine Dr.read 1 _ 44 _ rfl rfl rfl rfl rfl (RV.of (by intro _ _ h; cases h) (.inl rfl) (fun _ xd => HV.ld rfl va2 (rdc_ext xd (at_cell hb657 rfl)))) ?_
        refine Dr.read 2 _ 45 _ rfl rfl rfl rfl rfl (RV.of (by intro _ _ h; cases h) (.inl rfl) (fun _ xd => HV.fa fl166_0 rfl)) ?_
        refine Dr.read 3 _ 46 _ rfl rfl rfl rfl rfl (RV.of (by intro _ _ h; cases h) (.inl rfl) (fun _ xd => HV.ld rfl va22 (rdc_ext xd (at_cell hb659 rfl)))) ?_
        refine Dr.read 4 _ 47 _ rfl rfl rfl rfl rfl (RV.of (by intro _ _ h; cases h) (.inl rfl) (fun _ xd => HV.mv rfl)) ?_
        obtain ⟨g661, z662, cs663, hz664, hK665, hC666, hg667, hP668⟩ := OwnK.ix (q := (firstI y.1)) ho655 sl22 (by rw [hj1]; omega) (by rw [hj1]; omega)
        have X669 := Ext.refl H647
        obtain rfl : cs663 = [.int .i64 z662] := hK665
        refine Dr.read 5 _ 48 _ rfl rfl rfl rfl rfl (RV.of (by intro _ _ h; cases h) (.inl rfl) (fun _ xd => hP668 rfl rfl)) ?_
        refine Dr.read 6 _ 49 _ rfl rfl rfl rfl rfl (RV.of (by intro _ _ h; cases h) (.inl rfl) (fun _ xd => HV.ld rfl va2 (rdc_ext xd (cells_first hC666 rfl)))) ?_
        have hzj : y.1.getD (firstI y.1).toNat 0 = z662 := by rw [List.getD_eq_getElem?_getD, hz664]; rfl
        have hzj2 : y.1.getD jf 0 = z662 := by rw [hj1, Int.toNat_natCast] at hzj; exact hzj
        have hiv := invM_spec hq (show 1 ≤ z662 by omega) (show z662 < p by omega)
        refine Dr.eff 7 _ _ rfl (by intro d h; cases h; exact ⟨rfl, rfl⟩) rfl rfl rfl (EC.of (by intro _ _ h; cases h) (.inl rfl) (WV.call fn141 rfl (inverse_ok (W := W) p z662 hq (by omega) (by omega)))) (fun v H' h => .inl (h.2)) ?_
        rintro _ H670 ⟨rfl, hx671⟩
        have q672 := Nat.le_trans q649 hx671.bd
        have q673 := Nat.le_trans q650 hx671.bd
        have X674 := Ext.trans X651 hx671
        have X675 := Ext.trans X652 hx671
        have X676 := Ext.trans X653 hx671
        have X677 := Ext.trans X669 hx671
        have ho678 := ho654.ext hx671
        have ho679 := ho655.ext hx671
        have ho680 := ho656.ext hx671
        have hb681 := hb657.ext hx671
        have hb682 := hb658.ext hx671
        have hb683 := hb659.ext hx671
        refine Dr.read 8 _ 12 _ rfl rfl rfl rfl rfl (RV.of (by intro _ _ h; cases h) (.inl rfl) (fun _ xd => HV.as rfl)) ?_
        refine Dr.fin rfl ?_
        refine nrm_and ?_
        refine AW.rs ?_
        refine AL.val rfl (.inl rfl) (HV.fa fl29_0 rfl) ?_
        refine AL.val rfl (.inl rfl) (HV.ld rfl va2 (at_cell hb681 rfl)) ?_
        refine AL.val rfl (.inl rfl) (HV.fa fl166_0 rfl) ?_
        refine AL.val rfl (.inl rfl) (HV.ld rfl va22 (at_cell hb683 rfl)) ?_
        refine AL.val rfl (.inl rfl) (HV.mv rfl) ?_
        refine AL.w rfl (.inl rfl) (WV.call fn142 rfl (scaled_ok ho679 hp hyK.2.1 (by omega))) ?_
        rintro _ H684 ⟨hx685, ho686⟩
        have q687 := Nat.le_trans q672 hx685.bd
        have q688 := Nat.le_trans q673 hx685.bd
        have X689 := Ext.thru X674 hx685 (fun b hb => Nat.le_trans o585 (ho679.blk b hb).1.1)
        have X690 := Ext.thru X675 hx685 (fun b hb => Nat.le_trans o586 (ho679.blk b hb).1.1)
        have X691 := Ext.thru X676 hx685 (fun b hb => Nat.le_trans o587 (ho679.blk b hb).1.1)
        have q693 := Nat.le_trans X677.bd hx685.bd
        have ho694 := ho678.but hx685 (fun b hb _ e => by have h1 : (H4.bd ≤ b ∧ b ≠ b24) ∧ b < H51.bd := hb; have h2 : H51.bd ≤ b := (ho679.blk b e).1.1; omega) (fun b hb => (ho679.blk b hb).2.2)
        have ho695 := ho680.but hx685 (fun b h1 _ h2 => hd12 b h2 h1.2) (fun b hb => (ho679.blk b hb).2.2)
        have hb696 := hb681.but hx685 (fun e => by have q : H51.bd ≤ _ := (ho679.blk _ e).1.1; omega)
        have hb697 := hb682.but hx685 (fun e => by have q : H51.bd ≤ _ := (ho679.blk _ e).1.1; omega)
        have hb698 := hb683.but hx685 (fun e => hd1b _ e rfl)
        refine AL.nx ?_
        refine AW.rs ?_
        refine AL.val rfl (.inl rfl) (HV.fa fl29_0 rfl) ?_
        refine AL.val rfl (.inl rfl) (HV.ld rfl va2 (at_cell hb696 rfl)) ?_
        refine AL.val rfl (.inl rfl) (HV.fa fl166_1 rfl) ?_
        refine AL.val rfl (.inl rfl) (HV.ld rfl va22 (at_cell_add (j := 1) hb698 rfl)) ?_
        refine AL.val rfl (.inl rfl) (HV.mv rfl) ?_
        refine AL.w rfl (.inl rfl) (WV.call fn142 rfl (scaled_ok ho695 hp hyK.2.2.2 (by omega))) ?_
        rintro _ H699 ⟨hx700, ho701⟩
        have q702 := Nat.le_trans q687 hx700.bd
        have q703 := Nat.le_trans q688 hx700.bd
        have q704 := Nat.le_trans q693 hx700.bd
        have X705 := Ext.thru X689 hx700 (fun b hb => Nat.le_trans o585 (ho695.blk b hb).1.1)
        have X706 := Ext.thru X690 hx700 (fun b hb => Nat.le_trans o586 (ho695.blk b hb).1.1)
        have X707 := Ext.thru X691 hx700 (fun b hb => Nat.le_trans o587 (ho695.blk b hb).1.1)
        have ho708 := ho694.but hx700 (fun b hb _ e => by have h1 : (H4.bd ≤ b ∧ b ≠ b24) ∧ b < H51.bd := hb; have h2 : H51.bd ≤ b := (ho695.blk b e).1.1; omega) (fun b hb => (ho695.blk b hb).2.2)
        have ho709 := ho686.but hx700 (fun b h1 _ h2 => hd12 b h1.2 h2) (fun b hb => (ho695.blk b hb).2.2)
        have hb710 := hb696.but hx700 (fun e => by have q : H51.bd ≤ _ := (ho695.blk _ e).1.1; omega)
        have hb711 := hb697.but hx700 (fun e => by have q : H51.bd ≤ _ := (ho695.blk _ e).1.1; omega)
        have hb712 := hb698.but hx700 (fun e => hd2b _ e rfl)
        refine AL.nx ?_
        refine AW.reg ?_
        refine AL.val rfl (.inl rfl) (HV.ld rfl va164 (at_cell hb711 rfl)) ?_
        refine AL.val rfl (.inl rfl) (HV.lda (cs := [u1, u2]) rfl va166 (at_cells hb712 rfl)) ?_
        have oHn_ := X707.bd
        have hc_u1 : u1.cells = #[u1] := by obtain ⟨A, c, e⟩ := ho709.isSl; rw [e]; rfl
        have hc_u2 : u2.cells = #[u2] := by obtain ⟨A, c, e⟩ := ho701.isSl; rw [e]; rfl
        refine AL.w rfl (.inl rfl) (WV.bsO (okx := fun b => H51.bd ≤ b) (K := (kP (kR kI) (kR kI))) (l := ([((scl p (invM p z662) y.1), (scl p (invM p z662) y.2))] : List (List Int × List Int))) (css := [[u1, u2]]) sl164 rfl rfl (by simp [Instr.fill, Value.cells, kR, rng1, rng2, kP]) rfl (segs_cons ⟨[u1], [u2], rfl, ⟨_, rfl, ho709.rd.okk (fun b hb _ => hb.1)⟩, ⟨_, rfl, ho701.rd.okk (fun b hb _ => hb.1)⟩⟩ segs_nil)) ?_
        rintro v713 H714 ⟨hx715, ho716⟩
        have q717 := Nat.le_trans q702 hx715.bd
        have q718 := Nat.le_trans q703 hx715.bd
        have q719 := Nat.le_trans q704 hx715.bd
        have X720 := Ext.trans X705 hx715
        have X721 := Ext.trans X706 hx715
        have X722 := Ext.trans X707 hx715
        have ho723 := ho708.ext hx715
        have ho724 := ho709.ext hx715
        have ho725 := ho701.ext hx715
        have hb726 := hb710.ext hx715
        have hb727 := hb711.ext hx715
        have hb728 := hb712.ext hx715
        have X729 := Ext.refl H714
        refine AL.w rfl (.inl rfl) (WV.apk sl164 rfl rfl ho723 ho716.rd (by simp only [List.length_singleton]; omega) (by simp only [List.length_singleton]; omega) (fun b hb _ e => by have a1 : b < H51.bd := (ho723.blk b e).1.2; have a2 : H51.bd ≤ b ∨ H699.bd ≤ b := hb; omega)) ?_
        rintro v730 H731 ⟨hx732, ho733, hb734⟩
        have oHm_ := X722.bd
        have ho735 := ho733.okk (ok' := fun b => H4.bd ≤ b ∧ b ≠ b24) (fun b hb _ => hb.elim (fun q => q.1) (fun q => by have q' : (H51.bd ≤ b ∨ H699.bd ≤ b) ∨ H714.bd ≤ b := q; exact ⟨by omega, by omega⟩))
        have q736 := Nat.le_trans q717 hx732.bd
        have q737 := Nat.le_trans q718 hx732.bd
        have q738 := Nat.le_trans q719 hx732.bd
        have X739 := Ext.thru X720 hx732 (fun b hb => Nat.le_trans o12 (ho723.blk b hb).1.1.1)
        have X740 := Ext.thru X721 hx732 (fun b hb => Nat.le_trans o13 (ho723.blk b hb).1.1.1)
        have q742 := Nat.le_trans X722.bd hx732.bd
        have q744 := Nat.le_trans X729.bd hx732.bd
        have hb745 := hb726.but hx732 (fun e => by have q : H4.bd ≤ _ := (ho723.blk _ e).1.1.1; omega)
        have hb746 := hb727.but hx732 (fun e => by have q : (fun b => (H4.bd ≤ b ∧ b ≠ b24) ∧ b < H51.bd) b24 := (ho723.blk _ e).1; have q2 : (H4.bd ≤ b24 ∧ b24 ≠ b24) ∧ b24 < H51.bd := q; omega)
        refine AL.w0 (.inl rfl) (WV.st rfl rfl va164 (sl_size ho735.rd.isSl) hb746 (Nat.le_of_ble_eq_true rfl) (sl_one ho735.rd.isSl)) ?_
        rintro _ H747 ⟨hx748, hb749⟩
        rw [sl_cells ho735.rd.isSl] at hb749
        have q750 := Nat.le_trans q736 hx748.bd
        have q751 := Nat.le_trans q737 hx748.bd
        have q752 := Nat.le_trans q738 hx748.bd
        have q753 := Nat.le_trans q742 hx748.bd
        have q754 := Nat.le_trans q744 hx748.bd
        have X755 := Ext.thru X739 hx748 (fun z_ hz_ => by rw [hz_]; exact o29)
        have X756 := Ext.thru X740 hx748 (fun z_ hz_ => by rw [hz_]; exact o30)
        have ho757 := ho735.but hx748 (fun b hb _ e => by have hb' : (H4.bd ≤ b ∧ b ≠ b24) := hb; have e' : b = b24 := e; omega) (fun z_ hz_ => by rw [hz_]; exact hb746.w)
        have hb758 := hb745.but hx748 ne32
        have hb759 : At W H747 b24 ⟨164, [v730], 1⟩ := hb749
        refine AL.nil ?_
        refine nrm_blk (nrm_and ?_)
        refine AW.reg ?_
        refine AL.val rfl (.inl rfl) (HV.add rfl rfl (by omega)) ?_
        refine AL.val rfl (.inl rfl) (HV.mv rfl) ?_
        refine AL.nil ?_
        refine nrm_and ?_
        exact ⟨(i + 1, v730, (bs ++ ([((scl p (invM p z662) y.1), (scl p (invM p z662) y.2))] : List (List Int × List Int)))), ⟨X755, X756, hb758, by omega, by rw [basisM_succ, ← hbs]; unfold addB; rw [hy2, if_pos (by omega), hzj], hb759, ho757, trivial⟩, by first | omega | (dsimp only; omega), ⟨rfl, rfl, rfl, rfl, rfl, rfl, rfl, rfl, rfl, trivial⟩⟩
      · -- else
        refine AW.skip ?_
        refine nrm_blk (nrm_and ?_)
        refine AW.reg ?_
        refine AL.val rfl (.inl rfl) (HV.add rfl rfl (by omega)) ?_
        refine AL.val rfl (.inl rfl) (HV.mv rfl) ?_
        refine AL.nil ?_
        refine nrm_and ?_
        exact ⟨(i + 1, vb, bs), ⟨X651, X652, hb657, by omega, by rw [basisM_succ, ← hbs]; unfold addB; rw [hy2, if_neg (by omega)], hb658, (ho654.okk (fun b hb _ => hb.1)), trivial⟩, by first | omega | (dsimp only; omega), ⟨rfl, rfl, rfl, rfl, rfl, rfl, rfl, rfl, rfl, trivial⟩⟩
  · -- else
    refine AW.exit ?_
    refine ex_and (ex_and (ex_blk ?_))
    refine nrm_and ?_
    refine AW.cut (fun E1_ H1_ => ∃ (u1 u2 : Value) (b10 : Nat), Ext H51 H1_ ∧ H51.bd ≤ b10 ∧ At W H1_ b10 ⟨166, [u1, u2], 2⟩ ∧ OwnK kI 2 W H1_ (fun b => H51.bd ≤ b ∧ some b = u1.ownBlock) u1 (lessP p bs (tg, List.replicate l.length 0)).1 ∧ OwnK kI 2 W H1_ (fun b => H51.bd ≤ b ∧ some b = u2.ownBlock) u2 (lessP p bs (tg, List.replicate l.length 0)).2 ∧ (∀ b, some b = u1.ownBlock → some b = u2.ownBlock → False) ∧ (∀ b, some b = u1.ownBlock → b = b10 → False) ∧ (∀ b, some b = u2.ownBlock → b = b10 → False) ∧ sub [(1, vt), (2, .pointer (some ⟨b3, 0, none⟩)), (4, (.slice none 0 0)), (5, .bool false), (6, .pointer (some ⟨b24, 0, none⟩)), (7, (.func (.func 138) #[] #[.pointer (some ⟨b24, 0, none⟩), .pointer (some ⟨b3, 0, none⟩)])), (17, v), (18, .int .i64 (l.length : Int)), (19, .int .i64 (i : Int)), (20, .bool (decide ((i : Int) < (l.length : Int)))), (13, .pointer (some ⟨b10, 0, none⟩))] E1_) ?_ ?_
    · -- the region
      refine AW.draw' [0, 0, 2, 0, 8, 24, 56, 126, 255, 0, 1023] mixed (by rfl) ?_
      refine Dr.read 0 _ 68 _ rfl rfl rfl rfl rfl (RV.of (by intro _ _ h; cases h) (.inl rfl) (fun _ xd => HV.mv rfl)) ?_
      refine Dr.read 1 _ 69 _ rfl rfl rfl rfl rfl (RV.of (by intro _ _ h; cases h) (.inl rfl) (fun _ xd => HV.mv rfl)) ?_
      refine Dr.read 3 _ 71 _ rfl rfl rfl rfl rfl (RV.of (by intro _ _ h; cases h) (.inl rfl) (fun _ xd => HV.fa fl29_2 rfl)) ?_
      refine Dr.read 4 _ 72 _ rfl rfl rfl rfl rfl (RV.of (by intro _ _ h; cases h) (.inl rfl) (fun _ xd => HV.ld rfl va23 (rdc_ext xd (at_cell_add (j := 2) hb54 rfl)))) ?_
      refine Dr.read 5 _ 73 _ rfl rfl rfl rfl rfl (RV.of (by intro _ _ h; cases h) (.inl rfl) (fun _ xd => HV.len Try.underlying23 rfl hr.isSl)) ?_
      have y760 := hb54.lt
      have y761 := hb6.lt
      have o762 := X52.bd
      have o763 := X53.bd
      have o764 := X55.bd
      have a765 := hoBc.ltb
      have y770 := hb54.lt
      have y771 := hb6.lt
      have o772 := X52.bd
      have o773 := X53.bd
      have o774 := X55.bd
      have a775 := hoBc.ltb
      refine Dr.eff3 2 6 9 _ _ _ _ _ _  rfl rfl rfl  (by intro d h; cases h; exact ⟨rfl, rfl⟩) (by intro d h; cases h; exact ⟨rfl, rfl⟩) (by intro d h; cases h; exact ⟨rfl, rfl⟩) rfl rfl rfl  rfl rfl rfl rfl  (EC.of (by intro _ _ h; cases h) (.inl rfl) (WV.call fn87 rfl (cloneI_ok (hrt.ext X52) (by omega)))) (EC.of (by intro _ _ h; cases h) (.inl rfl) (WV.mkK (K := kI) (0 : Int) (fun _ _ _ => rfl) sl22 rfl rfl rfl (by omega) (by omega) (by omega))) (EC.of (by intro _ _ h; cases h) (.inl rfl) (WV.al ze166 rfl)) (fun v H' h => .inl (h.1)) (fun v H' h => .inl (h.1)) (fun v H' h => .inl (h.choose_spec.2.1)) ?_ ?_ ?_ 
      · -- 2 first
        have y785 := hb54.lt
        have y786 := hb6.lt
        have o787 := X52.bd
        have o788 := X53.bd
        have o789 := X55.bd
        have a790 := hoBc.ltb
        rintro v791 H792 ⟨hx793, ho794⟩
        have X795 := Ext.trans X52 hx793
        have X796 := Ext.trans X53 hx793
        have X797 := Ext.trans X55 hx793
        have ho798 := hoBc.ext hx793
        have hb799 := hb54.ext hx793
        have hb800 := hb6.ext hx793
        have X802 := Ext.refl H792
        have y803 := hb799.lt
        have y804 := hb800.lt
        have o805 := X795.bd
        have o806 := X796.bd
        have o807 := X797.bd
        have o808 := X802.bd
        have a809 := ho798.ltb
        have a810 := ho794.ltb
        have X815 := Ext.refl H792
        have ho816 := ho794.okk (ok' := fun b => H51.bd ≤ b ∧ b < H792.bd) (fun b hb hlt => ⟨hb, hlt⟩)
        refine Dr.eff2 6 9 _ _ _ _  rfl rfl  (by intro d h; cases h; exact ⟨rfl, rfl⟩) (by intro d h; cases h; exact ⟨rfl, rfl⟩) rfl rfl  rfl rfl rfl  (EC.of (by intro _ _ h; cases h) (.inl rfl) (WV.mkK (K := kI) (0 : Int) (fun _ _ _ => rfl) sl22 rfl rfl rfl (by omega) (by omega) (by omega))) (EC.of (by intro _ _ h; cases h) (.inl rfl) (WV.al ze166 rfl)) (fun v H' h => .inl (h.1)) (fun v H' h => .inl (h.choose_spec.2.1)) ?_ ?_ 
        · -- 6 first
          have X822 := Ext.refl H792
          have y823 := hb799.lt
          have y824 := hb800.lt
          have o825 := X795.bd
          have o826 := X796.bd
          have o827 := X797.bd
          have o828 := X822.bd
          have a829 := ho798.ltb
          have a830 := ho794.ltb
          rintro v831 H832 ⟨hx833, ho834⟩
          have X835 := Ext.trans X795 hx833
          have X836 := Ext.trans X796 hx833
          have X837 := Ext.trans X797 hx833
          have X838 := Ext.trans X822 hx833
          have ho839 := ho798.ext hx833
          have ho840 := ho794.ext hx833
          have hb841 := hb799.ext hx833
          have hb842 := hb800.ext hx833
          refine Dr.read 7 _ 75 _ rfl rfl rfl rfl rfl (RV.of (by intro _ _ h; cases h) (.inl rfl) (fun _ xd => HV.bd rfl (bd166_0_1 ho840.rd.isSl ho834.rd.isSl))) ?_
          have d12_ : ∀ b, some b = v791.ownBlock → some b = v831.ownBlock → False := (fun b h1 h2 => by have a1 := a830 b h1; have a2 : H792.bd ≤ b := (ho834.blk b h2).1; omega)
          have X848 := Ext.refl H832
          have ho849 := ho840.okk (ok' := fun b => H51.bd ≤ b ∧ b < H832.bd) (fun b hb hlt => ⟨hb, hlt⟩)
          have ho850 := ho834.okk (ok' := fun b => H792.bd ≤ b ∧ b < H832.bd) (fun b hb hlt => ⟨hb, hlt⟩)
          refine Dr.eff2 8 9 _ _ _ _  rfl rfl  (by intro d h; cases h; exact ⟨rfl, rfl⟩) (by intro d h; cases h; exact ⟨rfl, rfl⟩) rfl rfl  rfl rfl rfl  (EC.of (by intro _ _ h; cases h) (.inl rfl) (WV.callv fn138 rfl rfl (less_ok (C := K) (m := l.length) hb842 hb841 hr.isSl ho839.rd ho840 ho834 (fun x h q => by have a1 : H51.bd ≤ x := Nat.le_trans o789 (ho840.blk x q).1; rcases h with h | h | h | h; omega; omega; (have h2 : x < H51.bd := h.2; omega); exact d12_ x q h) (fun x h q => by have a1 : H51.bd ≤ x := Nat.le_trans o827 (ho834.blk x q).1; rcases h with h | h | h | h; omega; omega; (have h2 : x < H51.bd := h.2; omega); exact d12_ x h q) hp hbk ⟨htl, htg, by simp, rep_in (by omega) _⟩ (by omega) (by omega)))) (EC.of (by intro _ _ h; cases h) (.inl rfl) (WV.al ze166 rfl)) (fun v H' h => .inr (.inl rfl)) (fun v H' h => .inl (h.choose_spec.2.1)) ?_ ?_ 
          · -- 8 first
            have d12_ : ∀ b, some b = v791.ownBlock → some b = v831.ownBlock → False := (fun b h1 h2 => by have a1 := a830 b h1; have a2 : H792.bd ≤ b := (ho834.blk b h2).1; omega)
            rintro _ H856 ⟨rfl, hx857, ho858, ho859⟩
            have X860 := Ext.thru X835 hx857 (fun b hb => hb.elim (fun q => Nat.le_trans o787 (ho840.blk b q).1) (fun q => Nat.le_trans o825 (ho834.blk b q).1))
            have X861 := Ext.thru X836 hx857 (fun b hb => hb.elim (fun q => Nat.le_trans o788 (ho840.blk b q).1) (fun q => Nat.le_trans o826 (ho834.blk b q).1))
            have X862 := Ext.thru X837 hx857 (fun b hb => hb.elim (fun q => Nat.le_trans o789 (ho840.blk b q).1) (fun q => Nat.le_trans o827 (ho834.blk b q).1))
            have q864 := Nat.le_trans X838.bd hx857.bd
            have hb865 := hb841.but hx857 (fun e => e.elim (fun q => by have a : H51.bd ≤ _ := Nat.le_trans o789 (ho840.blk _ q).1; omega) (fun q => by have a : H51.bd ≤ _ := Nat.le_trans o827 (ho834.blk _ q).1; omega))
            have hb866 := hb842.but hx857 (fun e => e.elim (fun q => by have a : H51.bd ≤ _ := Nat.le_trans o789 (ho840.blk _ q).1; omega) (fun q => by have a : H51.bd ≤ _ := Nat.le_trans o827 (ho834.blk _ q).1; omega))
            have ho867 := ho839.but hx857 (fun b hb _ e => e.elim (fun q => by have a : H51.bd ≤ b := Nat.le_trans o789 (ho840.blk b q).1; have a2 : b < H51.bd := hb.2; omega) (fun q => by have a : H51.bd ≤ b := Nat.le_trans o827 (ho834.blk b q).1; have a2 : b < H51.bd := hb.2; omega)) (fun b e => e.elim (fun q => (ho840.blk b q).2.2) (fun q => (ho834.blk b q).2.2))
            have X868 := Ext.refl H856
            have ho869 := ho858.okk (ok' := fun b => H51.bd ≤ b ∧ b < H856.bd) (fun b hb hlt => ⟨hb, hlt⟩)
            have ho870 := ho859.okk (ok' := fun b => H792.bd ≤ b ∧ b < H856.bd) (fun b hb hlt => ⟨hb, hlt⟩)
            refine Dr.eff 9 _ _ rfl (by intro d h; cases h; exact ⟨rfl, rfl⟩) rfl rfl rfl (EC.of (by intro _ _ h; cases h) (.inl rfl) (WV.al ze166 rfl)) (fun v H' h => .inl (h.choose_spec.2.1)) ?_
            rintro _ H872 ⟨b871, rfl, hx873, hn874, hb875⟩
            have o876 := Nat.le_trans X860.bd hn874
            have o877 := Nat.le_trans X861.bd hn874
            have o878 := Nat.le_trans X862.bd hn874
            have o879 := Nat.le_trans X868.bd hn874
            have o880 := Nat.le_trans q864 hn874
            have ne881 : b3 ≠ b871 := by have := hb865.lt; omega
            have ne882 : b24 ≠ b871 := by have := hb866.lt; omega
            have q883 := Nat.le_trans q864 hx873.bd
            have X884 := Ext.trans X860 hx873
            have X885 := Ext.trans X861 hx873
            have X886 := Ext.trans X862 hx873
            have X887 := Ext.trans X868 hx873
            have ho888 := ho867.ext hx873
            have ho889 := ho869.ext hx873
            have ho890 := ho870.ext hx873
            have hb891 := hb865.ext hx873
            have hb892 := hb866.ext hx873
            have X893 := Ext.refl H872
            refine Dr.eff 10 _ _ rfl (by intro d h; cases h) rfl rfl rfl (EC.of (by intro _ _ h; cases h) (.inl rfl) (WV.st rfl rfl va166 rfl hb875 (Nat.le_of_ble_eq_true rfl) (one_cons (sl_one1 ho889.rd.isSl) (one_cons (sl_one1 ho890.rd.isSl) one_nil)))) (fun v H' h => .inr (.inl rfl)) ?_
            rintro _ H894 ⟨hx895, hb896⟩
            have q897 := Nat.le_trans q883 hx895.bd
            have X898 := Ext.thru X884 hx895 (fun z_ hz_ => by rw [hz_]; exact o876)
            have X899 := Ext.thru X885 hx895 (fun z_ hz_ => by rw [hz_]; exact o877)
            have X900 := Ext.thru X886 hx895 (fun z_ hz_ => by rw [hz_]; exact o878)
            have X901 := Ext.thru X887 hx895 (fun z_ hz_ => by rw [hz_]; exact o879)
            have q903 := Nat.le_trans X893.bd hx895.bd
            have ho904 := ho888.but hx895 (fun b hb _ e => by have hb' : (H4.bd ≤ b ∧ b ≠ b24) ∧ b < H51.bd := hb; have e' : b = b871 := e; omega) (fun z_ hz_ => by rw [hz_]; exact hb875.w)
            have ho905 := ho889.but hx895 (fun b hb _ e => by have hb' : H51.bd ≤ b ∧ b < H856.bd := hb; have e' : b = b871 := e; omega) (fun z_ hz_ => by rw [hz_]; exact hb875.w)
            have ho906 := ho890.but hx895 (fun b hb _ e => by have hb' : H792.bd ≤ b ∧ b < H856.bd := hb; have e' : b = b871 := e; omega) (fun z_ hz_ => by rw [hz_]; exact hb875.w)
            have hb907 := hb891.but hx895 ne881
            have hb908 := hb892.but hx895 ne882
            have hb909 : At W H894 b871 ⟨166, [v791, v831], 2⟩ := hb896
            refine Dr.fin rfl ?_
            exact nrm_and ⟨v791, v831, b871, X900, o878, hb909, (OwnK.narrow kI_flat ho905 (fun b q => ⟨Nat.le_trans o789 (ho905.blk b q).1.1, q⟩)), (OwnK.narrow kI_flat ho906 (fun b q => ⟨Nat.le_trans o827 (ho906.blk b q).1.1, q⟩)), (fun b h1 h2 => by have a1 := a830 b h1; have a2 : H792.bd ≤ b ∧ b < H856.bd := (ho906.blk b h2).1; omega), (show ∀ b, some b = v791.ownBlock → b = b871 → False from fun b h1 e => by have a1 : H51.bd ≤ b ∧ b < H856.bd := (ho905.blk b h1).1; omega), (show ∀ b, some b = v831.ownBlock → b = b871 → False from fun b h1 e => by have a1 : H792.bd ≤ b ∧ b < H856.bd := (ho906.blk b h1).1; omega), rfl, rfl, rfl, rfl, rfl, rfl, rfl, rfl, rfl, rfl, rfl, trivial⟩
          · -- 9 first
            have X910 := Ext.refl H832
            have ho911 := ho840.okk (ok' := fun b => H51.bd ≤ b ∧ b < H832.bd) (fun b hb hlt => ⟨hb, hlt⟩)
            have ho912 := ho834.okk (ok' := fun b => H792.bd ≤ b ∧ b < H832.bd) (fun b hb hlt => ⟨hb, hlt⟩)
            rintro _ H914 ⟨b913, rfl, hx915, hn916, hb917⟩
            have o918 := Nat.le_trans X835.bd hn916
            have o919 := Nat.le_trans X836.bd hn916
            have o920 := Nat.le_trans X837.bd hn916
            have o921 := Nat.le_trans X838.bd hn916
            have o922 := Nat.le_trans X910.bd hn916
            have ne923 : b3 ≠ b913 := by have := hb841.lt; omega
            have ne924 : b24 ≠ b913 := by have := hb842.lt; omega
            have X925 := Ext.trans X835 hx915
            have X926 := Ext.trans X836 hx915
            have X927 := Ext.trans X837 hx915
            have X928 := Ext.trans X838 hx915
            have X929 := Ext.trans X910 hx915
            have ho930 := ho839.ext hx915
            have ho931 := ho911.ext hx915
            have ho932 := ho912.ext hx915
            have hb933 := hb841.ext hx915
            have hb934 := hb842.ext hx915
            have X935 := Ext.refl H914
            have d12_ : ∀ b, some b = v791.ownBlock → some b = v831.ownBlock → False := (fun b h1 h2 => by have a1 := a830 b h1; have a2 : H792.bd ≤ b ∧ b < H832.bd := (ho932.blk b h2).1; omega)
            refine Dr.eff 8 _ _ rfl (by intro d h; cases h; exact ⟨rfl, rfl⟩) rfl rfl rfl (EC.of (by intro _ _ h; cases h) (.inl rfl) (WV.callv fn138 rfl rfl (less_ok (C := K) (m := l.length) hb934 hb933 hr.isSl ho930.rd ho931 ho932 (fun x h q => by have a1 : H51.bd ≤ x := Nat.le_trans o789 (ho931.blk x q).1.1; rcases h with h | h | h | h; omega; omega; (have h2 : x < H51.bd := h.2; omega); exact d12_ x q h) (fun x h q => by have a1 : H51.bd ≤ x := Nat.le_trans o827 (ho932.blk x q).1.1; rcases h with h | h | h | h; omega; omega; (have h2 : x < H51.bd := h.2; omega); exact d12_ x h q) hp hbk ⟨htl, htg, by simp, rep_in (by omega) _⟩ (by omega) (by omega)))) (fun v H' h => .inr (.inl rfl)) ?_
            rintro _ H936 ⟨rfl, hx937, ho938, ho939⟩
            have X940 := Ext.thru X925 hx937 (fun b hb => hb.elim (fun q => Nat.le_trans o787 (ho931.blk b q).1.1) (fun q => Nat.le_trans o825 (ho932.blk b q).1.1))
            have X941 := Ext.thru X926 hx937 (fun b hb => hb.elim (fun q => Nat.le_trans o788 (ho931.blk b q).1.1) (fun q => Nat.le_trans o826 (ho932.blk b q).1.1))
            have X942 := Ext.thru X927 hx937 (fun b hb => hb.elim (fun q => Nat.le_trans o789 (ho931.blk b q).1.1) (fun q => Nat.le_trans o827 (ho932.blk b q).1.1))
            have q944 := Nat.le_trans X928.bd hx937.bd
            have q946 := Nat.le_trans X929.bd hx937.bd
            have q948 := Nat.le_trans X935.bd hx937.bd
            have hb949 := hb933.but hx937 (fun e => e.elim (fun q => by have a : H51.bd ≤ _ := Nat.le_trans o789 (ho931.blk _ q).1.1; omega) (fun q => by have a : H51.bd ≤ _ := Nat.le_trans o827 (ho932.blk _ q).1.1; omega))
            have hb950 := hb934.but hx937 (fun e => e.elim (fun q => by have a : H51.bd ≤ _ := Nat.le_trans o789 (ho931.blk _ q).1.1; omega) (fun q => by have a : H51.bd ≤ _ := Nat.le_trans o827 (ho932.blk _ q).1.1; omega))
            have hb951 := hb917.but hx937 (fun e => e.elim (fun q => (show ∀ b, some b = v791.ownBlock → b = b913 → False from fun b h1 e => by have a1 : H51.bd ≤ b ∧ b < H832.bd := (ho931.blk b h1).1; omega) _ q rfl) (fun q => (show ∀ b, some b = v831.ownBlock → b = b913 → False from fun b h1 e => by have a1 : H792.bd ≤ b ∧ b < H832.bd := (ho932.blk b h1).1; omega) _ q rfl))
            have ho952 := ho930.but hx937 (fun b hb _ e => e.elim (fun q => by have a : H51.bd ≤ b := Nat.le_trans o789 (ho931.blk b q).1.1; have a2 : b < H51.bd := hb.2; omega) (fun q => by have a : H51.bd ≤ b := Nat.le_trans o827 (ho932.blk b q).1.1; have a2 : b < H51.bd := hb.2; omega)) (fun b e => e.elim (fun q => (ho931.blk b q).2.2) (fun q => (ho932.blk b q).2.2))
            have X953 := Ext.refl H936
            refine Dr.eff 10 _ _ rfl (by intro d h; cases h) rfl rfl rfl (EC.of (by intro _ _ h; cases h) (.inl rfl) (WV.st rfl rfl va166 rfl hb951 (Nat.le_of_ble_eq_true rfl) (one_cons (sl_one1 ho938.rd.isSl) (one_cons (sl_one1 ho939.rd.isSl) one_nil)))) (fun v H' h => .inr (.inl rfl)) ?_
            rintro _ H954 ⟨hx955, hb956⟩
            have q957 := Nat.le_trans q944 hx955.bd
            have q958 := Nat.le_trans q946 hx955.bd
            have q959 := Nat.le_trans q948 hx955.bd
            have X960 := Ext.thru X940 hx955 (fun z_ hz_ => by rw [hz_]; exact o918)
            have X961 := Ext.thru X941 hx955 (fun z_ hz_ => by rw [hz_]; exact o919)
            have X962 := Ext.thru X942 hx955 (fun z_ hz_ => by rw [hz_]; exact o920)
            have q964 := Nat.le_trans X953.bd hx955.bd
            have ho965 := ho952.but hx955 (fun b hb _ e => by have hb' : (H4.bd ≤ b ∧ b ≠ b24) ∧ b < H51.bd := hb; have e' : b = b913 := e; omega) (fun z_ hz_ => by rw [hz_]; exact hb951.w)
            have ho966 := ho938.but hx955 (fun b hb _ e => by have hb' : H51.bd ≤ b ∧ b < H832.bd := hb; have e' : b = b913 := e; omega) (fun z_ hz_ => by rw [hz_]; exact hb951.w)
            have ho967 := ho939.but hx955 (fun b hb _ e => by have hb' : H792.bd ≤ b ∧ b < H832.bd := hb; have e' : b = b913 := e; omega) (fun z_ hz_ => by rw [hz_]; exact hb951.w)
            have hb968 := hb949.but hx955 ne923
            have hb969 := hb950.but hx955 ne924
            have hb970 : At W H954 b913 ⟨166, [v791, v831], 2⟩ := hb956
            refine Dr.fin rfl ?_
            exact nrm_and ⟨v791, v831, b913, X962, o920, hb970, (OwnK.narrow kI_flat ho966 (fun b q => ⟨Nat.le_trans o789 (ho966.blk b q).1.1, q⟩)), (OwnK.narrow kI_flat ho967 (fun b q => ⟨Nat.le_trans o827 (ho967.blk b q).1.1, q⟩)), (fun b h1 h2 => by have a1 := a830 b h1; have a2 : H792.bd ≤ b ∧ b < H832.bd := (ho967.blk b h2).1; omega), (show ∀ b, some b = v791.ownBlock → b = b913 → False from fun b h1 e => by have a1 : H51.bd ≤ b ∧ b < H832.bd := (ho966.blk b h1).1; omega), (show ∀ b, some b = v831.ownBlock → b = b913 → False from fun b h1 e => by have a1 : H792.bd ≤ b ∧ b < H832.bd := (ho967.blk b h1).1; omega), rfl, rfl, rfl, rfl, rfl, rfl, rfl, rfl, rfl, rfl, rfl, trivial⟩
        · -- 9 first
          have X971 := Ext.refl H792
          have ho972 := ho794.okk (ok' := fun b => H51.bd ≤ b ∧ b < H792.bd) (fun b hb hlt => ⟨hb, hlt⟩)
          rintro _ H974 ⟨b973, rfl, hx975, hn976, hb977⟩
          have o978 := Nat.le_trans X795.bd hn976
          have o979 := Nat.le_trans X796.bd hn976
          have o980 := Nat.le_trans X797.bd hn976
          have o981 := Nat.le_trans X971.bd hn976
          have ne982 : b3 ≠ b973 := by have := hb799.lt; omega
          have ne983 : b24 ≠ b973 := by have := hb800.lt; omega
          have X984 := Ext.trans X795 hx975
          have X985 := Ext.trans X796 hx975
          have X986 := Ext.trans X797 hx975
          have X987 := Ext.trans X971 hx975
          have ho988 := ho798.ext hx975
          have ho989 := ho972.ext hx975
          have hb990 := hb799.ext hx975
          have hb991 := hb800.ext hx975
          have X992 := Ext.refl H974
          have y993 := hb990.lt
          have y994 := hb991.lt
          have y995 := hb977.lt
          have o996 := X984.bd
          have o997 := X985.bd
          have o998 := X986.bd
          have o999 := X987.bd
          have o1000 := X992.bd
          have a1001 := ho988.ltb
          have a1002 := ho989.ltb
          refine Dr.eff 6 _ _ rfl (by intro d h; cases h; exact ⟨rfl, rfl⟩) rfl rfl rfl (EC.of (by intro _ _ h; cases h) (.inl rfl) (WV.mkK (K := kI) (0 : Int) (fun _ _ _ => rfl) sl22 rfl rfl rfl (by omega) (by omega) (by omega))) (fun v H' h => .inl (h.1)) ?_
          rintro v1003 H1004 ⟨hx1005, ho1006⟩
          have X1007 := Ext.trans X984 hx1005
          have X1008 := Ext.trans X985 hx1005
          have X1009 := Ext.trans X986 hx1005
          have X1010 := Ext.trans X987 hx1005
          have X1011 := Ext.trans X992 hx1005
          have ho1012 := ho988.ext hx1005
          have ho1013 := ho989.ext hx1005
          have hb1014 := hb990.ext hx1005
          have hb1015 := hb991.ext hx1005
          have hb1016 := hb977.ext hx1005
          refine Dr.read 7 _ 75 _ rfl rfl rfl rfl rfl (RV.of (by intro _ _ h; cases h) (.inl rfl) (fun _ xd => HV.bd rfl (bd166_0_1 ho1013.rd.isSl ho1006.rd.isSl))) ?_
          have d12_ : ∀ b, some b = v791.ownBlock → some b = v1003.ownBlock → False := (fun b h1 h2 => by have a1 := a1002 b h1; have a2 : H974.bd ≤ b := (ho1006.blk b h2).1; omega)
          refine Dr.eff 8 _ _ rfl (by intro d h; cases h; exact ⟨rfl, rfl⟩) rfl rfl rfl (EC.of (by intro _ _ h; cases h) (.inl rfl) (WV.callv fn138 rfl rfl (less_ok (C := K) (m := l.length) hb1015 hb1014 hr.isSl ho1012.rd ho1013 ho1006 (fun x h q => by have a1 : H51.bd ≤ x := Nat.le_trans o789 (ho1013.blk x q).1.1; rcases h with h | h | h | h; omega; omega; (have h2 : x < H51.bd := h.2; omega); exact d12_ x q h) (fun x h q => by have a1 : H51.bd ≤ x := Nat.le_trans o998 (ho1006.blk x q).1; rcases h with h | h | h | h; omega; omega; (have h2 : x < H51.bd := h.2; omega); exact d12_ x h q) hp hbk ⟨htl, htg, by simp, rep_in (by omega) _⟩ (by omega) (by omega)))) (fun v H' h => .inr (.inl rfl)) ?_
          rintro _ H1018 ⟨rfl, hx1019, ho1020, ho1021⟩
          have X1022 := Ext.thru X1007 hx1019 (fun b hb => hb.elim (fun q => Nat.le_trans o787 (ho1013.blk b q).1.1) (fun q => Nat.le_trans o996 (ho1006.blk b q).1))
          have X1023 := Ext.thru X1008 hx1019 (fun b hb => hb.elim (fun q => Nat.le_trans o788 (ho1013.blk b q).1.1) (fun q => Nat.le_trans o997 (ho1006.blk b q).1))
          have X1024 := Ext.thru X1009 hx1019 (fun b hb => hb.elim (fun q => Nat.le_trans o789 (ho1013.blk b q).1.1) (fun q => Nat.le_trans o998 (ho1006.blk b q).1))
          have q1026 := Nat.le_trans X1010.bd hx1019.bd
          have q1028 := Nat.le_trans X1011.bd hx1019.bd
          have hb1029 := hb1014.but hx1019 (fun e => e.elim (fun q => by have a : H51.bd ≤ _ := Nat.le_trans o789 (ho1013.blk _ q).1.1; omega) (fun q => by have a : H51.bd ≤ _ := Nat.le_trans o998 (ho1006.blk _ q).1; omega))
          have hb1030 := hb1015.but hx1019 (fun e => e.elim (fun q => by have a : H51.bd ≤ _ := Nat.le_trans o789 (ho1013.blk _ q).1.1; omega) (fun q => by have a : H51.bd ≤ _ := Nat.le_trans o998 (ho1006.blk _ q).1; omega))
          have hb1031 := hb1016.but hx1019 (fun e => e.elim (fun q => (show ∀ b, some b = v791.ownBlock → b = b973 → False from fun b h1 e => by have a1 : H51.bd ≤ b ∧ b < H792.bd := (ho1013.blk b h1).1; omega) _ q rfl) (fun q => (show ∀ b, some b = v1003.ownBlock → b = b973 → False from fun b h1 e => by have a1 : H974.bd ≤ b := (ho1006.blk b h1).1; omega) _ q rfl))
          have ho1032 := ho1012.but hx1019 (fun b hb _ e => e.elim (fun q => by have a : H51.bd ≤ b := Nat.le_trans o789 (ho1013.blk b q).1.1; have a2 : b < H51.bd := hb.2; omega) (fun q => by have a : H51.bd ≤ b := Nat.le_trans o998 (ho1006.blk b q).1; have a2 : b < H51.bd := hb.2; omega)) (fun b e => e.elim (fun q => (ho1013.blk b q).2.2) (fun q => (ho1006.blk b q).2.2))
          have X1033 := Ext.refl H1018
          refine Dr.eff 10 _ _ rfl (by intro d h; cases h) rfl rfl rfl (EC.of (by intro _ _ h; cases h) (.inl rfl) (WV.st rfl rfl va166 rfl hb1031 (Nat.le_of_ble_eq_true rfl) (one_cons (sl_one1 ho1020.rd.isSl) (one_cons (sl_one1 ho1021.rd.isSl) one_nil)))) (fun v H' h => .inr (.inl rfl)) ?_
          rintro _ H1034 ⟨hx1035, hb1036⟩
          have q1037 := Nat.le_trans q1026 hx1035.bd
          have q1038 := Nat.le_trans q1028 hx1035.bd
          have X1039 := Ext.thru X1022 hx1035 (fun z_ hz_ => by rw [hz_]; exact o978)
          have X1040 := Ext.thru X1023 hx1035 (fun z_ hz_ => by rw [hz_]; exact o979)
          have X1041 := Ext.thru X1024 hx1035 (fun z_ hz_ => by rw [hz_]; exact o980)
          have q1043 := Nat.le_trans X1033.bd hx1035.bd
          have ho1044 := ho1032.but hx1035 (fun b hb _ e => by have hb' : (H4.bd ≤ b ∧ b ≠ b24) ∧ b < H51.bd := hb; have e' : b = b973 := e; omega) (fun z_ hz_ => by rw [hz_]; exact hb1031.w)
          have ho1045 := ho1020.but hx1035 (fun b hb _ e => by have hb' : H51.bd ≤ b ∧ b < H792.bd := hb; have e' : b = b973 := e; omega) (fun z_ hz_ => by rw [hz_]; exact hb1031.w)
          have ho1046 := ho1021.but hx1035 (fun b hb _ e => by have hb' : H974.bd ≤ b := hb; have e' : b = b973 := e; omega) (fun z_ hz_ => by rw [hz_]; exact hb1031.w)
          have hb1047 := hb1029.but hx1035 ne982
          have hb1048 := hb1030.but hx1035 ne983
          have hb1049 : At W H1034 b973 ⟨166, [v791, v1003], 2⟩ := hb1036
          refine Dr.fin rfl ?_
          exact nrm_and ⟨v791, v1003, b973, X1041, o980, hb1049, (OwnK.narrow kI_flat ho1045 (fun b q => ⟨Nat.le_trans o789 (ho1045.blk b q).1.1, q⟩)), (OwnK.narrow kI_flat ho1046 (fun b q => ⟨Nat.le_trans o998 (ho1046.blk b q).1, q⟩)), (fun b h1 h2 => by have a1 := a1002 b h1; have a2 : H974.bd ≤ b := (ho1046.blk b h2).1; omega), (show ∀ b, some b = v791.ownBlock → b = b973 → False from fun b h1 e => by have a1 : H51.bd ≤ b ∧ b < H792.bd := (ho1045.blk b h1).1; omega), (show ∀ b, some b = v1003.ownBlock → b = b973 → False from fun b h1 e => by have a1 : H974.bd ≤ b := (ho1046.blk b h1).1; omega), rfl, rfl, rfl, rfl, rfl, rfl, rfl, rfl, rfl, rfl, rfl, trivial⟩
      · -- 6 first
        have y1050 := hb54.lt
        have y1051 := hb6.lt
        have o1052 := X52.bd
        have o1053 := X53.bd
        have o1054 := X55.bd
        have a1055 := hoBc.ltb
        rintro v1056 H1057 ⟨hx1058, ho1059⟩
        have X1060 := Ext.trans X52 hx1058
        have X1061 := Ext.trans X53 hx1058
        have X1062 := Ext.trans X55 hx1058
        have ho1063 := hoBc.ext hx1058
        have hb1064 := hb54.ext hx1058
        have hb1065 := hb6.ext hx1058
        have X1067 := Ext.refl H1057
        have y1068 := hb1064.lt
        have y1069 := hb1065.lt
        have o1070 := X1060.bd
        have o1071 := X1061.bd
        have o1072 := X1062.bd
        have o1073 := X1067.bd
        have a1074 := ho1063.ltb
        have a1075 := ho1059.ltb
        have X1080 := Ext.refl H1057
        have ho1081 := ho1059.okk (ok' := fun b => H51.bd ≤ b ∧ b < H1057.bd) (fun b hb hlt => ⟨hb, hlt⟩)
        refine Dr.eff2 2 9 _ _ _ _  rfl rfl  (by intro d h; cases h; exact ⟨rfl, rfl⟩) (by intro d h; cases h; exact ⟨rfl, rfl⟩) rfl rfl  rfl rfl rfl  (EC.of (by intro _ _ h; cases h) (.inl rfl) (WV.call fn87 rfl (cloneI_ok (hrt.ext X1060) (by omega)))) (EC.of (by intro _ _ h; cases h) (.inl rfl) (WV.al ze166 rfl)) (fun v H' h => .inl (h.1)) (fun v H' h => .inl (h.choose_spec.2.1)) ?_ ?_ 
        · -- 2 first
          have X1087 := Ext.refl H1057
          have y1088 := hb1064.lt
          have y1089 := hb1065.lt
          have o1090 := X1060.bd
          have o1091 := X1061.bd
          have o1092 := X1062.bd
          have o1093 := X1087.bd
          have a1094 := ho1063.ltb
          have a1095 := ho1059.ltb
          rintro v1096 H1097 ⟨hx1098, ho1099⟩
          have X1100 := Ext.trans X1060 hx1098
          have X1101 := Ext.trans X1061 hx1098
          have X1102 := Ext.trans X1062 hx1098
          have X1103 := Ext.trans X1087 hx1098
          have ho1104 := ho1063.ext hx1098
          have ho1105 := ho1059.ext hx1098
          have hb1106 := hb1064.ext hx1098
          have hb1107 := hb1065.ext hx1098
          refine Dr.read 7 _ 75 _ rfl rfl rfl rfl rfl (RV.of (by intro _ _ h; cases h) (.inl rfl) (fun _ xd => HV.bd rfl (bd166_0_1 ho1099.rd.isSl ho1105.rd.isSl))) ?_
          have d12_ : ∀ b, some b = v1096.ownBlock → some b = v1056.ownBlock → False := (fun b h1 h2 => by have a1 := a1095 b h2; have a2 : H1057.bd ≤ b := (ho1099.blk b h1).1; omega)
          have X1113 := Ext.refl H1097
          have ho1114 := ho1105.okk (ok' := fun b => H51.bd ≤ b ∧ b < H1097.bd) (fun b hb hlt => ⟨hb, hlt⟩)
          have ho1115 := ho1099.okk (ok' := fun b => H1057.bd ≤ b ∧ b < H1097.bd) (fun b hb hlt => ⟨hb, hlt⟩)
          refine Dr.eff2 8 9 _ _ _ _  rfl rfl  (by intro d h; cases h; exact ⟨rfl, rfl⟩) (by intro d h; cases h; exact ⟨rfl, rfl⟩) rfl rfl  rfl rfl rfl  (EC.of (by intro _ _ h; cases h) (.inl rfl) (WV.callv fn138 rfl rfl (less_ok (C := K) (m := l.length) hb1107 hb1106 hr.isSl ho1104.rd ho1099 ho1105 (fun x h q => by have a1 : H51.bd ≤ x := Nat.le_trans o1092 (ho1099.blk x q).1; rcases h with h | h | h | h; omega; omega; (have h2 : x < H51.bd := h.2; omega); exact d12_ x q h) (fun x h q => by have a1 : H51.bd ≤ x := Nat.le_trans o1054 (ho1105.blk x q).1; rcases h with h | h | h | h; omega; omega; (have h2 : x < H51.bd := h.2; omega); exact d12_ x h q) hp hbk ⟨htl, htg, by simp, rep_in (by omega) _⟩ (by omega) (by omega)))) (EC.of (by intro _ _ h; cases h) (.inl rfl) (WV.al ze166 rfl)) (fun v H' h => .inr (.inl rfl)) (fun v H' h => .inl (h.choose_spec.2.1)) ?_ ?_ 
          · -- 8 first
            have d12_ : ∀ b, some b = v1096.ownBlock → some b = v1056.ownBlock → False := (fun b h1 h2 => by have a1 := a1095 b h2; have a2 : H1057.bd ≤ b := (ho1099.blk b h1).1; omega)
            rintro _ H1121 ⟨rfl, hx1122, ho1123, ho1124⟩
            have X1125 := Ext.thru X1100 hx1122 (fun b hb => hb.elim (fun q => Nat.le_trans o1090 (ho1099.blk b q).1) (fun q => Nat.le_trans o1052 (ho1105.blk b q).1))
            have X1126 := Ext.thru X1101 hx1122 (fun b hb => hb.elim (fun q => Nat.le_trans o1091 (ho1099.blk b q).1) (fun q => Nat.le_trans o1053 (ho1105.blk b q).1))
            have X1127 := Ext.thru X1102 hx1122 (fun b hb => hb.elim (fun q => Nat.le_trans o1092 (ho1099.blk b q).1) (fun q => Nat.le_trans o1054 (ho1105.blk b q).1))
            have q1129 := Nat.le_trans X1103.bd hx1122.bd
            have hb1130 := hb1106.but hx1122 (fun e => e.elim (fun q => by have a : H51.bd ≤ _ := Nat.le_trans o1092 (ho1099.blk _ q).1; omega) (fun q => by have a : H51.bd ≤ _ := Nat.le_trans o1054 (ho1105.blk _ q).1; omega))
            have hb1131 := hb1107.but hx1122 (fun e => e.elim (fun q => by have a : H51.bd ≤ _ := Nat.le_trans o1092 (ho1099.blk _ q).1; omega) (fun q => by have a : H51.bd ≤ _ := Nat.le_trans o1054 (ho1105.blk _ q).1; omega))
            have ho1132 := ho1104.but hx1122 (fun b hb _ e => e.elim (fun q => by have a : H51.bd ≤ b := Nat.le_trans o1092 (ho1099.blk b q).1; have a2 : b < H51.bd := hb.2; omega) (fun q => by have a : H51.bd ≤ b := Nat.le_trans o1054 (ho1105.blk b q).1; have a2 : b < H51.bd := hb.2; omega)) (fun b e => e.elim (fun q => (ho1099.blk b q).2.2) (fun q => (ho1105.blk b q).2.2))
            have X1133 := Ext.refl H1121
            have ho1134 := ho1124.okk (ok' := fun b => H51.bd ≤ b ∧ b < H1121.bd) (fun b hb hlt => ⟨hb, hlt⟩)
            have ho1135 := ho1123.okk (ok' := fun b => H1057.bd ≤ b ∧ b < H1121.bd) (fun b hb hlt => ⟨hb, hlt⟩)
            refine Dr.eff 9 _ _ rfl (by intro d h; cases h; exact ⟨rfl, rfl⟩) rfl rfl rfl (EC.of (by intro _ _ h; cases h) (.inl rfl) (WV.al ze166 rfl)) (fun v H' h => .inl (h.choose_spec.2.1)) ?_
            rintro _ H1137 ⟨b1136, rfl, hx1138, hn1139, hb1140⟩
            have o1141 := Nat.le_trans X1125.bd hn1139
            have o1142 := Nat.le_trans X1126.bd hn1139
            have o1143 := Nat.le_trans X1127.bd hn1139
            have o1144 := Nat.le_trans X1133.bd hn1139
            have o1145 := Nat.le_trans q1129 hn1139
            have ne1146 : b3 ≠ b1136 := by have := hb1130.lt; omega
            have ne1147 : b24 ≠ b1136 := by have := hb1131.lt; omega
            have q1148 := Nat.le_trans q1129 hx1138.bd
            have X1149 := Ext.trans X1125 hx1138
            have X1150 := Ext.trans X1126 hx1138
            have X1151 := Ext.trans X1127 hx1138
            have X1152 := Ext.trans X1133 hx1138
            have ho1153 := ho1132.ext hx1138
            have ho1154 := ho1134.ext hx1138
            have ho1155 := ho1135.ext hx1138
            have hb1156 := hb1130.ext hx1138
            have hb1157 := hb1131.ext hx1138
            have X1158 := Ext.refl H1137
            refine Dr.eff 10 _ _ rfl (by intro d h; cases h) rfl rfl rfl (EC.of (by intro _ _ h; cases h) (.inl rfl) (WV.st rfl rfl va166 rfl hb1140 (Nat.le_of_ble_eq_true rfl) (one_cons (sl_one1 ho1155.rd.isSl) (one_cons (sl_one1 ho1154.rd.isSl) one_nil)))) (fun v H' h => .inr (.inl rfl)) ?_
            rintro _ H1159 ⟨hx1160, hb1161⟩
            have q1162 := Nat.le_trans q1148 hx1160.bd
            have X1163 := Ext.thru X1149 hx1160 (fun z_ hz_ => by rw [hz_]; exact o1141)
            have X1164 := Ext.thru X1150 hx1160 (fun z_ hz_ => by rw [hz_]; exact o1142)
            have X1165 := Ext.thru X1151 hx1160 (fun z_ hz_ => by rw [hz_]; exact o1143)
            have X1166 := Ext.thru X1152 hx1160 (fun z_ hz_ => by rw [hz_]; exact o1144)
            have q1168 := Nat.le_trans X1158.bd hx1160.bd
            have ho1169 := ho1153.but hx1160 (fun b hb _ e => by have hb' : (H4.bd ≤ b ∧ b ≠ b24) ∧ b < H51.bd := hb; have e' : b = b1136 := e; omega) (fun z_ hz_ => by rw [hz_]; exact hb1140.w)
            have ho1170 := ho1154.but hx1160 (fun b hb _ e => by have hb' : H51.bd ≤ b ∧ b < H1121.bd := hb; have e' : b = b1136 := e; omega) (fun z_ hz_ => by rw [hz_]; exact hb1140.w)
            have ho1171 := ho1155.but hx1160 (fun b hb _ e => by have hb' : H1057.bd ≤ b ∧ b < H1121.bd := hb; have e' : b = b1136 := e; omega) (fun z_ hz_ => by rw [hz_]; exact hb1140.w)
            have hb1172 := hb1156.but hx1160 ne1146
            have hb1173 := hb1157.but hx1160 ne1147
            have hb1174 : At W H1159 b1136 ⟨166, [v1096, v1056], 2⟩ := hb1161
            refine Dr.fin rfl ?_
            exact nrm_and ⟨v1096, v1056, b1136, X1165, o1143, hb1174, (OwnK.narrow kI_flat ho1171 (fun b q => ⟨Nat.le_trans o1092 (ho1171.blk b q).1.1, q⟩)), (OwnK.narrow kI_flat ho1170 (fun b q => ⟨Nat.le_trans o1054 (ho1170.blk b q).1.1, q⟩)), (fun b h1 h2 => by have a1 := a1095 b h2; have a2 : H1057.bd ≤ b ∧ b < H1121.bd := (ho1171.blk b h1).1; omega), (show ∀ b, some b = v1096.ownBlock → b = b1136 → False from fun b h1 e => by have a1 : H1057.bd ≤ b ∧ b < H1121.bd := (ho1171.blk b h1).1; omega), (show ∀ b, some b = v1056.ownBlock → b = b1136 → False from fun b h1 e => by have a1 : H51.bd ≤ b ∧ b < H1121.bd := (ho1170.blk b h1).1; omega), rfl, rfl, rfl, rfl, rfl, rfl, rfl, rfl, rfl, rfl, rfl, trivial⟩
          · -- 9 first
            have X1175 := Ext.refl H1097
            have ho1176 := ho1105.okk (ok' := fun b => H51.bd ≤ b ∧ b < H1097.bd) (fun b hb hlt => ⟨hb, hlt⟩)
            have ho1177 := ho1099.okk (ok' := fun b => H1057.bd ≤ b ∧ b < H1097.bd) (fun b hb hlt => ⟨hb, hlt⟩)
            rintro _ H1179 ⟨b1178, rfl, hx1180, hn1181, hb1182⟩
            have o1183 := Nat.le_trans X1100.bd hn1181
            have o1184 := Nat.le_trans X1101.bd hn1181
            have o1185 := Nat.le_trans X1102.bd hn1181
            have o1186 := Nat.le_trans X1103.bd hn1181
            have o1187 := Nat.le_trans X1175.bd hn1181
            have ne1188 : b3 ≠ b1178 := by have := hb1106.lt; omega
            have ne1189 : b24 ≠ b1178 := by have := hb1107.lt; omega
            have X1190 := Ext.trans X1100 hx1180
            have X1191 := Ext.trans X1101 hx1180
            have X1192 := Ext.trans X1102 hx1180
            have X1193 := Ext.trans X1103 hx1180
            have X1194 := Ext.trans X1175 hx1180
            have ho1195 := ho1104.ext hx1180
            have ho1196 := ho1176.ext hx1180
            have ho1197 := ho1177.ext hx1180
            have hb1198 := hb1106.ext hx1180
            have hb1199 := hb1107.ext hx1180
            have X1200 := Ext.refl H1179
            have d12_ : ∀ b, some b = v1096.ownBlock → some b = v1056.ownBlock → False := (fun b h1 h2 => by have a1 := a1095 b h2; have a2 : H1057.bd ≤ b ∧ b < H1097.bd := (ho1197.blk b h1).1; omega)
            refine Dr.eff 8 _ _ rfl (by intro d h; cases h; exact ⟨rfl, rfl⟩) rfl rfl rfl (EC.of (by intro _ _ h; cases h) (.inl rfl) (WV.callv fn138 rfl rfl (less_ok (C := K) (m := l.length) hb1199 hb1198 hr.isSl ho1195.rd ho1197 ho1196 (fun x h q => by have a1 : H51.bd ≤ x := Nat.le_trans o1092 (ho1197.blk x q).1.1; rcases h with h | h | h | h; omega; omega; (have h2 : x < H51.bd := h.2; omega); exact d12_ x q h) (fun x h q => by have a1 : H51.bd ≤ x := Nat.le_trans o1054 (ho1196.blk x q).1.1; rcases h with h | h | h | h; omega; omega; (have h2 : x < H51.bd := h.2; omega); exact d12_ x h q) hp hbk ⟨htl, htg, by simp, rep_in (by omega) _⟩ (by omega) (by omega)))) (fun v H' h => .inr (.inl rfl)) ?_
            rintro _ H1201 ⟨rfl, hx1202, ho1203, ho1204⟩
            have X1205 := Ext.thru X1190 hx1202 (fun b hb => hb.elim (fun q => Nat.le_trans o1090 (ho1197.blk b q).1.1) (fun q => Nat.le_trans o1052 (ho1196.blk b q).1.1))
            have X1206 := Ext.thru X1191 hx1202 (fun b hb => hb.elim (fun q => Nat.le_trans o1091 (ho1197.blk b q).1.1) (fun q => Nat.le_trans o1053 (ho1196.blk b q).1.1))
            have X1207 := Ext.thru X1192 hx1202 (fun b hb => hb.elim (fun q => Nat.le_trans o1092 (ho1197.blk b q).1.1) (fun q => Nat.le_trans o1054 (ho1196.blk b q).1.1))
            have q1209 := Nat.le_trans X1193.bd hx1202.bd
            have q1211 := Nat.le_trans X1194.bd hx1202.bd
            have q1213 := Nat.le_trans X1200.bd hx1202.bd
            have hb1214 := hb1198.but hx1202 (fun e => e.elim (fun q => by have a : H51.bd ≤ _ := Nat.le_trans o1092 (ho1197.blk _ q).1.1; omega) (fun q => by have a : H51.bd ≤ _ := Nat.le_trans o1054 (ho1196.blk _ q).1.1; omega))
            have hb1215 := hb1199.but hx1202 (fun e => e.elim (fun q => by have a : H51.bd ≤ _ := Nat.le_trans o1092 (ho1197.blk _ q).1.1; omega) (fun q => by have a : H51.bd ≤ _ := Nat.le_trans o1054 (ho1196.blk _ q).1.1; omega))
            have hb1216 := hb1182.but hx1202 (fun e => e.elim (fun q => (show ∀ b, some b = v1096.ownBlock → b = b1178 → False from fun b h1 e => by have a1 : H1057.bd ≤ b ∧ b < H1097.bd := (ho1197.blk b h1).1; omega) _ q rfl) (fun q => (show ∀ b, some b = v1056.ownBlock → b = b1178 → False from fun b h1 e => by have a1 : H51.bd ≤ b ∧ b < H1097.bd := (ho1196.blk b h1).1; omega) _ q rfl))
            have ho1217 := ho1195.but hx1202 (fun b hb _ e => e.elim (fun q => by have a : H51.bd ≤ b := Nat.le_trans o1092 (ho1197.blk b q).1.1; have a2 : b < H51.bd := hb.2; omega) (fun q => by have a : H51.bd ≤ b := Nat.le_trans o1054 (ho1196.blk b q).1.1; have a2 : b < H51.bd := hb.2; omega)) (fun b e => e.elim (fun q => (ho1197.blk b q).2.2) (fun q => (ho1196.blk b q).2.2))
            have X1218 := Ext.refl H1201
            refine Dr.eff 10 _ _ rfl (by intro d h; cases h) rfl rfl rfl (EC.of (by intro _ _ h; cases h) (.inl rfl) (WV.st rfl rfl va166 rfl hb1216 (Nat.le_of_ble_eq_true rfl) (one_cons (sl_one1 ho1203.rd.isSl) (one_cons (sl_one1 ho1204.rd.isSl) one_nil)))) (fun v H' h => .inr (.inl rfl)) ?_
            rintro _ H1219 ⟨hx1220, hb1221⟩
            have q1222 := Nat.le_trans q1209 hx1220.bd
            have q1223 := Nat.le_trans q1211 hx1220.bd
            have q1224 := Nat.le_trans q1213 hx1220.bd
            have X1225 := Ext.thru X1205 hx1220 (fun z_ hz_ => by rw [hz_]; exact o1183)
            have X1226 := Ext.thru X1206 hx1220 (fun z_ hz_ => by rw [hz_]; exact o1184)
            have X1227 := Ext.thru X1207 hx1220 (fun z_ hz_ => by rw [hz_]; exact o1185)
            have q1229 := Nat.le_trans X1218.bd hx1220.bd
            have ho1230 := ho1217.but hx1220 (fun b hb _ e => by have hb' : (H4.bd ≤ b ∧ b ≠ b24) ∧ b < H51.bd := hb; have e' : b = b1178 := e; omega) (fun z_ hz_ => by rw [hz_]; exact hb1216.w)
            have ho1231 := ho1204.but hx1220 (fun b hb _ e => by have hb' : H51.bd ≤ b ∧ b < H1097.bd := hb; have e' : b = b1178 := e; omega) (fun z_ hz_ => by rw [hz_]; exact hb1216.w)
            have ho1232 := ho1203.but hx1220 (fun b hb _ e => by have hb' : H1057.bd ≤ b ∧ b < H1097.bd := hb; have e' : b = b1178 := e; omega) (fun z_ hz_ => by rw [hz_]; exact hb1216.w)
            have hb1233 := hb1214.but hx1220 ne1188
            have hb1234 := hb1215.but hx1220 ne1189
            have hb1235 : At W H1219 b1178 ⟨166, [v1096, v1056], 2⟩ := hb1221
            refine Dr.fin rfl ?_
            exact nrm_and ⟨v1096, v1056, b1178, X1227, o1185, hb1235, (OwnK.narrow kI_flat ho1232 (fun b q => ⟨Nat.le_trans o1092 (ho1232.blk b q).1.1, q⟩)), (OwnK.narrow kI_flat ho1231 (fun b q => ⟨Nat.le_trans o1054 (ho1231.blk b q).1.1, q⟩)), (fun b h1 h2 => by have a1 := a1095 b h2; have a2 : H1057.bd ≤ b ∧ b < H1097.bd := (ho1232.blk b h1).1; omega), (show ∀ b, some b = v1096.ownBlock → b = b1178 → False from fun b h1 e => by have a1 : H1057.bd ≤ b ∧ b < H1097.bd := (ho1232.blk b h1).1; omega), (show ∀ b, some b = v1056.ownBlock → b = b1178 → False from fun b h1 e => by have a1 : H51.bd ≤ b ∧ b < H1097.bd := (ho1231.blk b h1).1; omega), rfl, rfl, rfl, rfl, rfl, rfl, rfl, rfl, rfl, rfl, rfl, trivial⟩
        · -- 9 first
          have X1236 := Ext.refl H1057
          have ho1237 := ho1059.okk (ok' := fun b => H51.bd ≤ b ∧ b < H1057.bd) (fun b hb hlt => ⟨hb, hlt⟩)
          rintro _ H1239 ⟨b1238, rfl, hx1240, hn1241, hb1242⟩
          have o1243 := Nat.le_trans X1060.bd hn1241
          have o1244 := Nat.le_trans X1061.bd hn1241
          have o1245 := Nat.le_trans X1062.bd hn1241
          have o1246 := Nat.le_trans X1236.bd hn1241
          have ne1247 : b3 ≠ b1238 := by have := hb1064.lt; omega
          have ne1248 : b24 ≠ b1238 := by have := hb1065.lt; omega
          have X1249 := Ext.trans X1060 hx1240
          have X1250 := Ext.trans X1061 hx1240
          have X1251 := Ext.trans X1062 hx1240
          have X1252 := Ext.trans X1236 hx1240
          have ho1253 := ho1063.ext hx1240
          have ho1254 := ho1237.ext hx1240
          have hb1255 := hb1064.ext hx1240
          have hb1256 := hb1065.ext hx1240
          have X1257 := Ext.refl H1239
          have y1258 := hb1255.lt
          have y1259 := hb1256.lt
          have y1260 := hb1242.lt
          have o1261 := X1249.bd
          have o1262 := X1250.bd
          have o1263 := X1251.bd
          have o1264 := X1252.bd
          have o1265 := X1257.bd
          have a1266 := ho1253.ltb
          have a1267 := ho1254.ltb
          refine Dr.eff 2 _ _ rfl (by intro d h; cases h; exact ⟨rfl, rfl⟩) rfl rfl rfl (EC.of (by intro _ _ h; cases h) (.inl rfl) (WV.call fn87 rfl (cloneI_ok (hrt.ext X1249) (by omega)))) (fun v H' h => .inl (h.1)) ?_
          rintro v1268 H1269 ⟨hx1270, ho1271⟩
          have X1272 := Ext.trans X1249 hx1270
          have X1273 := Ext.trans X1250 hx1270
          have X1274 := Ext.trans X1251 hx1270
          have X1275 := Ext.trans X1252 hx1270
          have X1276 := Ext.trans X1257 hx1270
          have ho1277 := ho1253.ext hx1270
          have ho1278 := ho1254.ext hx1270
          have hb1279 := hb1255.ext hx1270
          have hb1280 := hb1256.ext hx1270
          have hb1281 := hb1242.ext hx1270
          refine Dr.read 7 _ 75 _ rfl rfl rfl rfl rfl (RV.of (by intro _ _ h; cases h) (.inl rfl) (fun _ xd => HV.bd rfl (bd166_0_1 ho1271.rd.isSl ho1278.rd.isSl))) ?_
          have d12_ : ∀ b, some b = v1268.ownBlock → some b = v1056.ownBlock → False := (fun b h1 h2 => by have a1 := a1267 b h2; have a2 : H1239.bd ≤ b := (ho1271.blk b h1).1; omega)
          refine Dr.eff 8 _ _ rfl (by intro d h; cases h; exact ⟨rfl, rfl⟩) rfl rfl rfl (EC.of (by intro _ _ h; cases h) (.inl rfl) (WV.callv fn138 rfl rfl (less_ok (C := K) (m := l.length) hb1280 hb1279 hr.isSl ho1277.rd ho1271 ho1278 (fun x h q => by have a1 : H51.bd ≤ x := Nat.le_trans o1263 (ho1271.blk x q).1; rcases h with h | h | h | h; omega; omega; (have h2 : x < H51.bd := h.2; omega); exact d12_ x q h) (fun x h q => by have a1 : H51.bd ≤ x := Nat.le_trans o1054 (ho1278.blk x q).1.1; rcases h with h | h | h | h; omega; omega; (have h2 : x < H51.bd := h.2; omega); exact d12_ x h q) hp hbk ⟨htl, htg, by simp, rep_in (by omega) _⟩ (by omega) (by omega)))) (fun v H' h => .inr (.inl rfl)) ?_
          rintro _ H1283 ⟨rfl, hx1284, ho1285, ho1286⟩
          have X1287 := Ext.thru X1272 hx1284 (fun b hb => hb.elim (fun q => Nat.le_trans o1261 (ho1271.blk b q).1) (fun q => Nat.le_trans o1052 (ho1278.blk b q).1.1))
          have X1288 := Ext.thru X1273 hx1284 (fun b hb => hb.elim (fun q => Nat.le_trans o1262 (ho1271.blk b q).1) (fun q => Nat.le_trans o1053 (ho1278.blk b q).1.1))
          have X1289 := Ext.thru X1274 hx1284 (fun b hb => hb.elim (fun q => Nat.le_trans o1263 (ho1271.blk b q).1) (fun q => Nat.le_trans o1054 (ho1278.blk b q).1.1))
          have q1291 := Nat.le_trans X1275.bd hx1284.bd
          have q1293 := Nat.le_trans X1276.bd hx1284.bd
          have hb1294 := hb1279.but hx1284 (fun e => e.elim (fun q => by have a : H51.bd ≤ _ := Nat.le_trans o1263 (ho1271.blk _ q).1; omega) (fun q => by have a : H51.bd ≤ _ := Nat.le_trans o1054 (ho1278.blk _ q).1.1; omega))
          have hb1295 := hb1280.but hx1284 (fun e => e.elim (fun q => by have a : H51.bd ≤ _ := Nat.le_trans o1263 (ho1271.blk _ q).1; omega) (fun q => by have a : H51.bd ≤ _ := Nat.le_trans o1054 (ho1278.blk _ q).1.1; omega))
          have hb1296 := hb1281.but hx1284 (fun e => e.elim (fun q => (show ∀ b, some b = v1268.ownBlock → b = b1238 → False from fun b h1 e => by have a1 : H1239.bd ≤ b := (ho1271.blk b h1).1; omega) _ q rfl) (fun q => (show ∀ b, some b = v1056.ownBlock → b = b1238 → False from fun b h1 e => by have a1 : H51.bd ≤ b ∧ b < H1057.bd := (ho1278.blk b h1).1; omega) _ q rfl))
          have ho1297 := ho1277.but hx1284 (fun b hb _ e => e.elim (fun q => by have a : H51.bd ≤ b := Nat.le_trans o1263 (ho1271.blk b q).1; have a2 : b < H51.bd := hb.2; omega) (fun q => by have a : H51.bd ≤ b := Nat.le_trans o1054 (ho1278.blk b q).1.1; have a2 : b < H51.bd := hb.2; omega)) (fun b e => e.elim (fun q => (ho1271.blk b q).2.2) (fun q => (ho1278.blk b q).2.2))
          have X1298 := Ext.refl H1283
          refine Dr.eff 10 _ _ rfl (by intro d h; cases h) rfl rfl rfl (EC.of (by intro _ _ h; cases h) (.inl rfl) (WV.st rfl rfl va166 rfl hb1296 (Nat.le_of_ble_eq_true rfl) (one_cons (sl_one1 ho1285.rd.isSl) (one_cons (sl_one1 ho1286.rd.isSl) one_nil)))) (fun v H' h => .inr (.inl rfl)) ?_
          rintro _ H1299 ⟨hx1300, hb1301⟩
          have q1302 := Nat.le_trans q1291 hx1300.bd
          have q1303 := Nat.le_trans q1293 hx1300.bd
          have X1304 := Ext.thru X1287 hx1300 (fun z_ hz_ => by rw [hz_]; exact o1243)
          have X1305 := Ext.thru X1288 hx1300 (fun z_ hz_ => by rw [hz_]; exact o1244)
          have X1306 := Ext.thru X1289 hx1300 (fun z_ hz_ => by rw [hz_]; exact o1245)
          have q1308 := Nat.le_trans X1298.bd hx1300.bd
          have ho1309 := ho1297.but hx1300 (fun b hb _ e => by have hb' : (H4.bd ≤ b ∧ b ≠ b24) ∧ b < H51.bd := hb; have e' : b = b1238 := e; omega) (fun z_ hz_ => by rw [hz_]; exact hb1296.w)
          have ho1310 := ho1286.but hx1300 (fun b hb _ e => by have hb' : H51.bd ≤ b ∧ b < H1057.bd := hb; have e' : b = b1238 := e; omega) (fun z_ hz_ => by rw [hz_]; exact hb1296.w)
          have ho1311 := ho1285.but hx1300 (fun b hb _ e => by have hb' : H1239.bd ≤ b := hb; have e' : b = b1238 := e; omega) (fun z_ hz_ => by rw [hz_]; exact hb1296.w)
          have hb1312 := hb1294.but hx1300 ne1247
          have hb1313 := hb1295.but hx1300 ne1248
          have hb1314 : At W H1299 b1238 ⟨166, [v1268, v1056], 2⟩ := hb1301
          refine Dr.fin rfl ?_
          exact nrm_and ⟨v1268, v1056, b1238, X1306, o1245, hb1314, (OwnK.narrow kI_flat ho1311 (fun b q => ⟨Nat.le_trans o1263 (ho1311.blk b q).1, q⟩)), (OwnK.narrow kI_flat ho1310 (fun b q => ⟨Nat.le_trans o1054 (ho1310.blk b q).1.1, q⟩)), (fun b h1 h2 => by have a1 := a1267 b h2; have a2 : H1239.bd ≤ b := (ho1311.blk b h1).1; omega), (show ∀ b, some b = v1268.ownBlock → b = b1238 → False from fun b h1 e => by have a1 : H1239.bd ≤ b := (ho1311.blk b h1).1; omega), (show ∀ b, some b = v1056.ownBlock → b = b1238 → False from fun b h1 e => by have a1 : H51.bd ≤ b ∧ b < H1057.bd := (ho1310.blk b h1).1; omega), rfl, rfl, rfl, rfl, rfl, rfl, rfl, rfl, rfl, rfl, rfl, trivial⟩
      · -- 9 first
        rintro _ H1316 ⟨b1315, rfl, hx1317, hn1318, hb1319⟩
        have o1320 := Nat.le_trans X52.bd hn1318
        have o1321 := Nat.le_trans X53.bd hn1318
        have o1322 := Nat.le_trans X55.bd hn1318
        have ne1323 : b3 ≠ b1315 := by have := hb54.lt; omega
        have ne1324 : b24 ≠ b1315 := by have := hb6.lt; omega
        have X1325 := Ext.trans X52 hx1317
        have X1326 := Ext.trans X53 hx1317
        have X1327 := Ext.trans X55 hx1317
        have ho1328 := hoBc.ext hx1317
        have hb1329 := hb54.ext hx1317
        have hb1330 := hb6.ext hx1317
        have X1331 := Ext.refl H1316
        have y1332 := hb1329.lt
        have y1333 := hb1330.lt
        have y1334 := hb1319.lt
        have o1335 := X1325.bd
        have o1336 := X1326.bd
        have o1337 := X1327.bd
        have o1338 := X1331.bd
        have a1339 := ho1328.ltb
        have y1344 := hb1329.lt
        have y1345 := hb1330.lt
        have y1346 := hb1319.lt
        have o1347 := X1325.bd
        have o1348 := X1326.bd
        have o1349 := X1327.bd
        have o1350 := X1331.bd
        have a1351 := ho1328.ltb
        refine Dr.eff2 2 6 _ _ _ _  rfl rfl  (by intro d h; cases h; exact ⟨rfl, rfl⟩) (by intro d h; cases h; exact ⟨rfl, rfl⟩) rfl rfl  rfl rfl rfl  (EC.of (by intro _ _ h; cases h) (.inl rfl) (WV.call fn87 rfl (cloneI_ok (hrt.ext X1325) (by omega)))) (EC.of (by intro _ _ h; cases h) (.inl rfl) (WV.mkK (K := kI) (0 : Int) (fun _ _ _ => rfl) sl22 rfl rfl rfl (by omega) (by omega) (by omega))) (fun v H' h => .inl (h.1)) (fun v H' h => .inl (h.1)) ?_ ?_ 
        · -- 2 first
          have y1356 := hb1329.lt
          have y1357 := hb1330.lt
          have y1358 := hb1319.lt
          have o1359 := X1325.bd
          have o1360 := X1326.bd
          have o1361 := X1327.bd
          have o1362 := X1331.bd
          have a1363 := ho1328.ltb
          rintro v1364 H1365 ⟨hx1366, ho1367⟩
          have X1368 := Ext.trans X1325 hx1366
          have X1369 := Ext.trans X1326 hx1366
          have X1370 := Ext.trans X1327 hx1366
          have X1371 := Ext.trans X1331 hx1366
          have ho1372 := ho1328.ext hx1366
          have hb1373 := hb1329.ext hx1366
          have hb1374 := hb1330.ext hx1366
          have hb1375 := hb1319.ext hx1366
          have X1377 := Ext.refl H1365
          have y1378 := hb1373.lt
          have y1379 := hb1374.lt
          have y1380 := hb1375.lt
          have o1381 := X1368.bd
          have o1382 := X1369.bd
          have o1383 := X1370.bd
          have o1384 := X1371.bd
          have o1385 := X1377.bd
          have a1386 := ho1372.ltb
          have a1387 := ho1367.ltb
          refine Dr.eff 6 _ _ rfl (by intro d h; cases h; exact ⟨rfl, rfl⟩) rfl rfl rfl (EC.of (by intro _ _ h; cases h) (.inl rfl) (WV.mkK (K := kI) (0 : Int) (fun _ _ _ => rfl) sl22 rfl rfl rfl (by omega) (by omega) (by omega))) (fun v H' h => .inl (h.1)) ?_
          rintro v1388 H1389 ⟨hx1390, ho1391⟩
          have X1392 := Ext.trans X1368 hx1390
          have X1393 := Ext.trans X1369 hx1390
          have X1394 := Ext.trans X1370 hx1390
          have X1395 := Ext.trans X1371 hx1390
          have X1396 := Ext.trans X1377 hx1390
          have ho1397 := ho1372.ext hx1390
          have ho1398 := ho1367.ext hx1390
          have hb1399 := hb1373.ext hx1390
          have hb1400 := hb1374.ext hx1390
          have hb1401 := hb1375.ext hx1390
          refine Dr.read 7 _ 75 _ rfl rfl rfl rfl rfl (RV.of (by intro _ _ h; cases h) (.inl rfl) (fun _ xd => HV.bd rfl (bd166_0_1 ho1398.rd.isSl ho1391.rd.isSl))) ?_
          have d12_ : ∀ b, some b = v1364.ownBlock → some b = v1388.ownBlock → False := (fun b h1 h2 => by have a1 := a1387 b h1; have a2 : H1365.bd ≤ b := (ho1391.blk b h2).1; omega)
          refine Dr.eff 8 _ _ rfl (by intro d h; cases h; exact ⟨rfl, rfl⟩) rfl rfl rfl (EC.of (by intro _ _ h; cases h) (.inl rfl) (WV.callv fn138 rfl rfl (less_ok (C := K) (m := l.length) hb1400 hb1399 hr.isSl ho1397.rd ho1398 ho1391 (fun x h q => by have a1 : H51.bd ≤ x := Nat.le_trans o1361 (ho1398.blk x q).1; rcases h with h | h | h | h; omega; omega; (have h2 : x < H51.bd := h.2; omega); exact d12_ x q h) (fun x h q => by have a1 : H51.bd ≤ x := Nat.le_trans o1383 (ho1391.blk x q).1; rcases h with h | h | h | h; omega; omega; (have h2 : x < H51.bd := h.2; omega); exact d12_ x h q) hp hbk ⟨htl, htg, by simp, rep_in (by omega) _⟩ (by omega) (by omega)))) (fun v H' h => .inr (.inl rfl)) ?_
          rintro _ H1403 ⟨rfl, hx1404, ho1405, ho1406⟩
          have X1407 := Ext.thru X1392 hx1404 (fun b hb => hb.elim (fun q => Nat.le_trans o1359 (ho1398.blk b q).1) (fun q => Nat.le_trans o1381 (ho1391.blk b q).1))
          have X1408 := Ext.thru X1393 hx1404 (fun b hb => hb.elim (fun q => Nat.le_trans o1360 (ho1398.blk b q).1) (fun q => Nat.le_trans o1382 (ho1391.blk b q).1))
          have X1409 := Ext.thru X1394 hx1404 (fun b hb => hb.elim (fun q => Nat.le_trans o1361 (ho1398.blk b q).1) (fun q => Nat.le_trans o1383 (ho1391.blk b q).1))
          have X1410 := Ext.thru X1395 hx1404 (fun b hb => hb.elim (fun q => Nat.le_trans o1362 (ho1398.blk b q).1) (fun q => Nat.le_trans o1384 (ho1391.blk b q).1))
          have q1412 := Nat.le_trans X1396.bd hx1404.bd
          have hb1413 := hb1399.but hx1404 (fun e => e.elim (fun q => by have a : H51.bd ≤ _ := Nat.le_trans o1361 (ho1398.blk _ q).1; omega) (fun q => by have a : H51.bd ≤ _ := Nat.le_trans o1383 (ho1391.blk _ q).1; omega))
          have hb1414 := hb1400.but hx1404 (fun e => e.elim (fun q => by have a : H51.bd ≤ _ := Nat.le_trans o1361 (ho1398.blk _ q).1; omega) (fun q => by have a : H51.bd ≤ _ := Nat.le_trans o1383 (ho1391.blk _ q).1; omega))
          have hb1415 := hb1401.but hx1404 (fun e => e.elim (fun q => (show ∀ b, some b = v1364.ownBlock → b = b1315 → False from fun b h1 e => by have a1 : H1316.bd ≤ b := (ho1398.blk b h1).1; omega) _ q rfl) (fun q => (show ∀ b, some b = v1388.ownBlock → b = b1315 → False from fun b h1 e => by have a1 : H1365.bd ≤ b := (ho1391.blk b h1).1; omega) _ q rfl))
          have ho1416 := ho1397.but hx1404 (fun b hb _ e => e.elim (fun q => by have a : H51.bd ≤ b := Nat.le_trans o1361 (ho1398.blk b q).1; have a2 : b < H51.bd := hb.2; omega) (fun q => by have a : H51.bd ≤ b := Nat.le_trans o1383 (ho1391.blk b q).1; have a2 : b < H51.bd := hb.2; omega)) (fun b e => e.elim (fun q => (ho1398.blk b q).2.2) (fun q => (ho1391.blk b q).2.2))
          have X1417 := Ext.refl H1403
          refine Dr.eff 10 _ _ rfl (by intro d h; cases h) rfl rfl rfl (EC.of (by intro _ _ h; cases h) (.inl rfl) (WV.st rfl rfl va166 rfl hb1415 (Nat.le_of_ble_eq_true rfl) (one_cons (sl_one1 ho1405.rd.isSl) (one_cons (sl_one1 ho1406.rd.isSl) one_nil)))) (fun v H' h => .inr (.inl rfl)) ?_
          rintro _ H1418 ⟨hx1419, hb1420⟩
          have q1421 := Nat.le_trans q1412 hx1419.bd
          have X1422 := Ext.thru X1407 hx1419 (fun z_ hz_ => by rw [hz_]; exact o1320)
          have X1423 := Ext.thru X1408 hx1419 (fun z_ hz_ => by rw [hz_]; exact o1321)
          have X1424 := Ext.thru X1409 hx1419 (fun z_ hz_ => by rw [hz_]; exact o1322)
          have q1426 := Nat.le_trans X1410.bd hx1419.bd
          have q1428 := Nat.le_trans X1417.bd hx1419.bd
          have ho1429 := ho1416.but hx1419 (fun b hb _ e => by have hb' : (H4.bd ≤ b ∧ b ≠ b24) ∧ b < H51.bd := hb; have e' : b = b1315 := e; omega) (fun z_ hz_ => by rw [hz_]; exact hb1415.w)
          have ho1430 := ho1405.but hx1419 (fun b hb _ e => by have hb' : H1316.bd ≤ b := hb; have e' : b = b1315 := e; omega) (fun z_ hz_ => by rw [hz_]; exact hb1415.w)
          have ho1431 := ho1406.but hx1419 (fun b hb _ e => by have hb' : H1365.bd ≤ b := hb; have e' : b = b1315 := e; omega) (fun z_ hz_ => by rw [hz_]; exact hb1415.w)
          have hb1432 := hb1413.but hx1419 ne1323
          have hb1433 := hb1414.but hx1419 ne1324
          have hb1434 : At W H1418 b1315 ⟨166, [v1364, v1388], 2⟩ := hb1420
          refine Dr.fin rfl ?_
          exact nrm_and ⟨v1364, v1388, b1315, X1424, o1322, hb1434, (OwnK.narrow kI_flat ho1430 (fun b q => ⟨Nat.le_trans o1361 (ho1430.blk b q).1, q⟩)), (OwnK.narrow kI_flat ho1431 (fun b q => ⟨Nat.le_trans o1383 (ho1431.blk b q).1, q⟩)), (fun b h1 h2 => by have a1 := a1387 b h1; have a2 : H1365.bd ≤ b := (ho1431.blk b h2).1; omega), (show ∀ b, some b = v1364.ownBlock → b = b1315 → False from fun b h1 e => by have a1 : H1316.bd ≤ b := (ho1430.blk b h1).1; omega), (show ∀ b, some b = v1388.ownBlock → b = b1315 → False from fun b h1 e => by have a1 : H1365.bd ≤ b := (ho1431.blk b h1).1; omega), rfl, rfl, rfl, rfl, rfl, rfl, rfl, rfl, rfl, rfl, rfl, trivial⟩
        · -- 6 first
          have y1435 := hb1329.lt
          have y1436 := hb1330.lt
          have y1437 := hb1319.lt
          have o1438 := X1325.bd
          have o1439 := X1326.bd
          have o1440 := X1327.bd
          have o1441 := X1331.bd
          have a1442 := ho1328.ltb
          rintro v1443 H1444 ⟨hx1445, ho1446⟩
          have X1447 := Ext.trans X1325 hx1445
          have X1448 := Ext.trans X1326 hx1445
          have X1449 := Ext.trans X1327 hx1445
          have X1450 := Ext.trans X1331 hx1445
          have ho1451 := ho1328.ext hx1445
          have hb1452 := hb1329.ext hx1445
          have hb1453 := hb1330.ext hx1445
          have hb1454 := hb1319.ext hx1445
          have X1456 := Ext.refl H1444
          have y1457 := hb1452.lt
          have y1458 := hb1453.lt
          have y1459 := hb1454.lt
          have o1460 := X1447.bd
          have o1461 := X1448.bd
          have o1462 := X1449.bd
          have o1463 := X1450.bd
          have o1464 := X1456.bd
          have a1465 := ho1451.ltb
          have a1466 := ho1446.ltb
          refine Dr.eff 2 _ _ rfl (by intro d h; cases h; exact ⟨rfl, rfl⟩) rfl rfl rfl (EC.of (by intro _ _ h; cases h) (.inl rfl) (WV.call fn87 rfl (cloneI_ok (hrt.ext X1447) (by omega)))) (fun v H' h => .inl (h.1)) ?_
          rintro v1467 H1468 ⟨hx1469, ho1470⟩
          have X1471 := Ext.trans X1447 hx1469
          have X1472 := Ext.trans X1448 hx1469
          have X1473 := Ext.trans X1449 hx1469
          have X1474 := Ext.trans X1450 hx1469
          have X1475 := Ext.trans X1456 hx1469
          have ho1476 := ho1451.ext hx1469
          have ho1477 := ho1446.ext hx1469
          have hb1478 := hb1452.ext hx1469
          have hb1479 := hb1453.ext hx1469
          have hb1480 := hb1454.ext hx1469
          refine Dr.read 7 _ 75 _ rfl rfl rfl rfl rfl (RV.of (by intro _ _ h; cases h) (.inl rfl) (fun _ xd => HV.bd rfl (bd166_0_1 ho1470.rd.isSl ho1477.rd.isSl))) ?_
          have d12_ : ∀ b, some b = v1467.ownBlock → some b = v1443.ownBlock → False := (fun b h1 h2 => by have a1 := a1466 b h2; have a2 : H1444.bd ≤ b := (ho1470.blk b h1).1; omega)
          refine Dr.eff 8 _ _ rfl (by intro d h; cases h; exact ⟨rfl, rfl⟩) rfl rfl rfl (EC.of (by intro _ _ h; cases h) (.inl rfl) (WV.callv fn138 rfl rfl (less_ok (C := K) (m := l.length) hb1479 hb1478 hr.isSl ho1476.rd ho1470 ho1477 (fun x h q => by have a1 : H51.bd ≤ x := Nat.le_trans o1462 (ho1470.blk x q).1; rcases h with h | h | h | h; omega; omega; (have h2 : x < H51.bd := h.2; omega); exact d12_ x q h) (fun x h q => by have a1 : H51.bd ≤ x := Nat.le_trans o1440 (ho1477.blk x q).1; rcases h with h | h | h | h; omega; omega; (have h2 : x < H51.bd := h.2; omega); exact d12_ x h q) hp hbk ⟨htl, htg, by simp, rep_in (by omega) _⟩ (by omega) (by omega)))) (fun v H' h => .inr (.inl rfl)) ?_
          rintro _ H1482 ⟨rfl, hx1483, ho1484, ho1485⟩
          have X1486 := Ext.thru X1471 hx1483 (fun b hb => hb.elim (fun q => Nat.le_trans o1460 (ho1470.blk b q).1) (fun q => Nat.le_trans o1438 (ho1477.blk b q).1))
          have X1487 := Ext.thru X1472 hx1483 (fun b hb => hb.elim (fun q => Nat.le_trans o1461 (ho1470.blk b q).1) (fun q => Nat.le_trans o1439 (ho1477.blk b q).1))
          have X1488 := Ext.thru X1473 hx1483 (fun b hb => hb.elim (fun q => Nat.le_trans o1462 (ho1470.blk b q).1) (fun q => Nat.le_trans o1440 (ho1477.blk b q).1))
          have X1489 := Ext.thru X1474 hx1483 (fun b hb => hb.elim (fun q => Nat.le_trans o1463 (ho1470.blk b q).1) (fun q => Nat.le_trans o1441 (ho1477.blk b q).1))
          have q1491 := Nat.le_trans X1475.bd hx1483.bd
          have hb1492 := hb1478.but hx1483 (fun e => e.elim (fun q => by have a : H51.bd ≤ _ := Nat.le_trans o1462 (ho1470.blk _ q).1; omega) (fun q => by have a : H51.bd ≤ _ := Nat.le_trans o1440 (ho1477.blk _ q).1; omega))
          have hb1493 := hb1479.but hx1483 (fun e => e.elim (fun q => by have a : H51.bd ≤ _ := Nat.le_trans o1462 (ho1470.blk _ q).1; omega) (fun q => by have a : H51.bd ≤ _ := Nat.le_trans o1440 (ho1477.blk _ q).1; omega))
          have hb1494 := hb1480.but hx1483 (fun e => e.elim (fun q => (show ∀ b, some b = v1467.ownBlock → b = b1315 → False from fun b h1 e => by have a1 : H1444.bd ≤ b := (ho1470.blk b h1).1; omega) _ q rfl) (fun q => (show ∀ b, some b = v1443.ownBlock → b = b1315 → False from fun b h1 e => by have a1 : H1316.bd ≤ b := (ho1477.blk b h1).1; omega) _ q rfl))
          have ho1495 := ho1476.but hx1483 (fun b hb _ e => e.elim (fun q => by have a : H51.bd ≤ b := Nat.le_trans o1462 (ho1470.blk b q).1; have a2 : b < H51.bd := hb.2; omega) (fun q => by have a : H51.bd ≤ b := Nat.le_trans o1440 (ho1477.blk b q).1; have a2 : b < H51.bd := hb.2; omega)) (fun b e => e.elim (fun q => (ho1470.blk b q).2.2) (fun q => (ho1477.blk b q).2.2))
          have X1496 := Ext.refl H1482
          refine Dr.eff 10 _ _ rfl (by intro d h; cases h) rfl rfl rfl (EC.of (by intro _ _ h; cases h) (.inl rfl) (WV.st rfl rfl va166 rfl hb1494 (Nat.le_of_ble_eq_true rfl) (one_cons (sl_one1 ho1484.rd.isSl) (one_cons (sl_one1 ho1485.rd.isSl) one_nil)))) (fun v H' h => .inr (.inl rfl)) ?_
          rintro _ H1497 ⟨hx1498, hb1499⟩
          have q1500 := Nat.le_trans q1491 hx1498.bd
          have X1501 := Ext.thru X1486 hx1498 (fun z_ hz_ => by rw [hz_]; exact o1320)
          have X1502 := Ext.thru X1487 hx1498 (fun z_ hz_ => by rw [hz_]; exact o1321)
          have X1503 := Ext.thru X1488 hx1498 (fun z_ hz_ => by rw [hz_]; exact o1322)
          have q1505 := Nat.le_trans X1489.bd hx1498.bd
          have q1507 := Nat.le_trans X1496.bd hx1498.bd
          have ho1508 := ho1495.but hx1498 (fun b hb _ e => by have hb' : (H4.bd ≤ b ∧ b ≠ b24) ∧ b < H51.bd := hb; have e' : b = b1315 := e; omega) (fun z_ hz_ => by rw [hz_]; exact hb1494.w)
          have ho1509 := ho1485.but hx1498 (fun b hb _ e => by have hb' : H1316.bd ≤ b := hb; have e' : b = b1315 := e; omega) (fun z_ hz_ => by rw [hz_]; exact hb1494.w)
          have ho1510 := ho1484.but hx1498 (fun b hb _ e => by have hb' : H1444.bd ≤ b := hb; have e' : b = b1315 := e; omega) (fun z_ hz_ => by rw [hz_]; exact hb1494.w)
          have hb1511 := hb1492.but hx1498 ne1323
          have hb1512 := hb1493.but hx1498 ne1324
          have hb1513 : At W H1497 b1315 ⟨166, [v1467, v1443], 2⟩ := hb1499
          refine Dr.fin rfl ?_
          exact nrm_and ⟨v1467, v1443, b1315, X1503, o1322, hb1513, (OwnK.narrow kI_flat ho1510 (fun b q => ⟨Nat.le_trans o1462 (ho1510.blk b q).1, q⟩)), (OwnK.narrow kI_flat ho1509 (fun b q => ⟨Nat.le_trans o1440 (ho1509.blk b q).1, q⟩)), (fun b h1 h2 => by have a1 := a1466 b h2; have a2 : H1444.bd ≤ b := (ho1510.blk b h1).1; omega), (show ∀ b, some b = v1467.ownBlock → b = b1315 → False from fun b h1 e => by have a1 : H1444.bd ≤ b := (ho1510.blk b h1).1; omega), (show ∀ b, some b = v1443.ownBlock → b = b1315 → False from fun b h1 e => by have a1 : H1316.bd ≤ b := (ho1509.blk b h1).1; omega), rfl, rfl, rfl, rfl, rfl, rfl, rfl, rfl, rfl, rfl, rfl, trivial⟩
    · -- behind it
      rintro E1_ H1_ ⟨u1, u2, b10, hXi, hib10, hb10, hu1, hu2, hd12, hd1b, hd2b, hsub⟩
      refine AW.le (E := [(1, vt), (2, .pointer (some ⟨b3, 0, none⟩)), (4, (.slice none 0 0)), (5, .bool false), (6, .pointer (some ⟨b24, 0, none⟩)), (7, (.func (.func 138) #[] #[.pointer (some ⟨b24, 0, none⟩), .pointer (some ⟨b3, 0, none⟩)])), (17, v), (18, .int .i64 (l.length : Int)), (19, .int .i64 (i : Int)), (20, .bool (decide ((i : Int) < (l.length : Int)))), (13, .pointer (some ⟨b10, 0, none⟩))]) (H := H1_) ?_ hsub (Ext.refl _)
      have o1514 := X52.bd
      have o1515 := X53.bd
      have o1516 := X55.bd
      have X1517 := Ext.trans X52 hXi
      have X1518 := Ext.trans X53 hXi
      have X1519 := Ext.trans X55 hXi
      have ho1520 := hoBc.ext hXi
      have hb1521 := hb54.ext hXi
      have hb1522 := hb6.ext hXi
      have X1523 := Ext.refl H1_
      have ne1524 : b3 ≠ b10 := by omega
      have ne1525 : b24 ≠ b10 := by omega
      obtain ⟨y, hy⟩ : ∃ y, y = lessP p bs (tg, List.replicate l.length 0) := ⟨_, rfl⟩
      rw [← hy] at hu1 hu2
      have hyK := lessP_K (p := p) (by omega) (C := K) (m := l.length) bs (x := (tg, List.replicate l.length 0)) ⟨htl, htg, by simp, rep_in (by omega) _⟩
      rw [← hy] at hyK
      refine AW.seq ?_
      refine AW.rs ?_
      refine AL.val rfl (.inl rfl) (HV.fa fl166_0 rfl) ?_
      refine AL.val rfl (.inl rfl) (HV.ld rfl va22 (at_cell hb10 rfl)) ?_
      refine AL.w rfl (.inl rfl) (WV.call fn139 rfl (first_ok hu1.rd)) ?_
      rintro _ H1526 ⟨rfl, hx1527⟩
      have X1528 := Ext.trans X1517 hx1527
      have X1529 := Ext.trans X1518 hx1527
      have X1530 := Ext.trans X1519 hx1527
      have X1531 := Ext.trans X1523 hx1527
      have ho1532 := ho1520.ext hx1527
      have ho1533 := hu1.ext hx1527
      have ho1534 := hu2.ext hx1527
      have hb1535 := hb1521.ext hx1527
      have hb1536 := hb1522.ext hx1527
      have hb1537 := hb10.ext hx1527
      refine AL.val rfl (.inl rfl) (HV.gei rfl rfl) ?_
      refine AL.nx ?_
      refine AW.ifd rfl (fun c1538 => ?_) (fun c1538 => ?_)
      · -- then
        refine AW.rs ?_
        refine AL.val rfl (.inl rfl) (HV.as rfl) ?_
        refine AL.val rfl (.inl rfl) (HV.as rfl) ?_
        refine AL.nx ?_
        refine AW.ret ?_
        refine ret_and ?_
        refine post_two rfl rfl rfl ?_ (.inr rfl)
        have hyE : lessP p (basisM p l l.length) (tg, List.replicate l.length 0) = y := (by rw [show basisM p l l.length = bs by rw [hbs, show i = l.length by omega]]; exact hy.symm); exact ⟨⟨_, by unfold combI; rw [hyE, if_pos (by omega)], by unfold combI; rw [hyE, if_pos (by omega)]; exact OwnK.nil _⟩, X1528⟩
      · -- else
        refine AW.skip ?_
        refine nrm_and ?_
        refine AW.rs ?_
        refine AL.val rfl (.inl rfl) (HV.fa fl29_0 rfl) ?_
        refine AL.val rfl (.inl rfl) (HV.ld rfl va2 (at_cell hb1535 rfl)) ?_
        refine AL.val rfl (.inl rfl) (HV.fa fl166_1 rfl) ?_
        refine AL.val rfl (.inl rfl) (HV.ld rfl va22 (at_cell_add (j := 1) hb1537 rfl)) ?_
        refine AL.val rfl (.inl rfl) (HV.fa fl29_0 rfl) ?_
        refine AL.val rfl (.inl rfl) (HV.ld rfl va2 (at_cell hb1535 rfl)) ?_
        refine AL.val rfl (.inl rfl) (HV.sub rfl rfl (by omega)) ?_
        refine AL.w rfl (.inl rfl) (WV.call fn142 rfl (scaled_ok ho1534 hp hyK.2.2.2 (by omega))) ?_
        rintro _ H1539 ⟨hx1540, ho1541⟩
        have X1542 := Ext.thru X1528 hx1540 (fun b hb => Nat.le_trans o1514 (ho1534.blk b hb).1.1)
        have X1543 := Ext.thru X1529 hx1540 (fun b hb => Nat.le_trans o1515 (ho1534.blk b hb).1.1)
        have X1544 := Ext.thru X1530 hx1540 (fun b hb => Nat.le_trans o1516 (ho1534.blk b hb).1.1)
        have q1546 := Nat.le_trans X1531.bd hx1540.bd
        have ho1547 := ho1532.but hx1540 (fun b hb _ e => by have h1 : (H4.bd ≤ b ∧ b ≠ b24) ∧ b < H51.bd := hb; have h2 : H51.bd ≤ b := (ho1534.blk b e).1.1; omega) (fun b hb => (ho1534.blk b hb).2.2)
        have ho1548 := ho1533.but hx1540 (fun b h1 _ h2 => hd12 b h1.2 h2) (fun b hb => (ho1534.blk b hb).2.2)
        have hb1549 := hb1535.but hx1540 (fun e => by have q : H51.bd ≤ _ := (ho1534.blk _ e).1.1; omega)
        have hb1550 := hb1536.but hx1540 (fun e => by have q : H51.bd ≤ _ := (ho1534.blk _ e).1.1; omega)
        have hb1551 := hb1537.but hx1540 (fun e => hd2b _ e rfl)
        refine AL.nx ?_
        refine AW.rs ?_
        refine AL.val rfl (.inl rfl) (HV.fa fl166_1 rfl) ?_
        refine AL.val rfl (.inl rfl) (HV.ld rfl va22 (at_cell_add (j := 1) hb1551 rfl)) ?_
        refine AL.val rfl (.inl rfl) (HV.as rfl) ?_
        refine AL.val rfl (.inl rfl) (HV.as rfl) ?_
        refine AL.nx ?_
        refine AW.ret ?_
        refine post_two rfl rfl rfl ?_ (.inr rfl)
        have hyE : lessP p (basisM p l l.length) (tg, List.replicate l.length 0) = y := (by rw [show basisM p l l.length = bs by rw [hbs, show i = l.length by omega]]; exact hy.symm); exact ⟨⟨_, by unfold combI; rw [hyE, if_neg (by omega)], by unfold combI; rw [hyE, if_neg (by omega)]; exact ho1541.okk (fun b hb _ => Nat.le_trans o1514 hb.1)⟩, X1542⟩
end Go.Proofs.Yticobjbjejpomaa.VC

