/- Walks. -/
import Derived.Test.YteajnanbfkcdcaaDoorVR5
set_option linter.unusedVariables false
set_option linter.unusedSimpArgs false
namespace Go.Proofs.YteajnanbfkcdcaaDoor.VC
open Go Go.RowKit
/-! ### The law -/
theorem rd_len {t : List Int} : (rdS (spF t) t).o.length ≤ 1048576 ∧ (rdS (spF t) t).l.length ≤ 1048576 ∧ ∀ x ∈ (rdS (spF t) t).l, x.length ≤ 1048576 := by
  have h0 : ∀ s : Sch, s = ⟨0, [], 0, 0, []⟩ → s.o.length ≤ 1048576 ∧ s.l.length ≤ 1048576 ∧ ∀ x ∈ s.l, x.length ≤ 1048576 := fun s e => by
    subst e; exact ⟨by decide, by decide, fun x hx => by cases hx⟩
  by_cases h : t.length > 4000
  · exact h0 _ (rd_2 h).2
  · cases hF : spF t with
    | none => exact h0 _ (rd_5 h rfl).2
    | some s =>
      rw [(rd_0 h rfl).2]
      obtain ⟨h1, ⟨m1, m2, m3, m4⟩, h3, h4, h5⟩ := ((spF_iff s).1 hF).1
      refine ⟨by omega, by omega, fun x hx => ?_⟩
      have := (m4 x hx).2
      omega
theorem implRd_sp {W : World} {H : Hp} {t : List Int} (hE : Env W) (hb : isB t) : ACalls Tryd.prog W 5 #[.string (bytesOf t)] H (fun r H' => (∃ (u v : Value) (la : Nat → Nat), r = .tuple #[.agg #[.int .i64 (rdS (spF t) t).n, u, .int .i64 (rdS (spF t) t).p, .int .i64 (rdS (spF t) t).k, v], .int .i64 (rdC (spF t) t)] ∧ OwnK kI 2 W H' (fun b => H.bd ≤ b ∧ la b = 0) u (rdS (spF t) t).o ∧ OwnD (kO 2 kI) 22 W H' (fun b => H.bd ≤ b ∧ la b = 1) v (rdS (spF t) t).l) ∧ Ext H H') := by
  have h := implRd_ok (H := H) hE hb
  rw [im_sp hb] at h
  exact h
theorem bytes_all (s : ByteArray) : ∃ t, s = bytesOf t ∧ isB t := by
  refine ⟨s.data.toList.map (fun u => (u.toNat : Int)), ?_, fun x hx => ?_⟩
  · apply ByteArray.ext
    apply Array.ext'
    rw [bytesOf_data, List.map_map]
    exact ((List.map_congr_left fun u _ => by simp).trans (List.map_id _)).symm
  · obtain ⟨u, _, rfl⟩ := List.mem_map.1 hx
    have := u.toNat_lt
    exact ⟨by omega, by omega⟩
variable {W : World} {H : Hp}

set_option maxRecDepth 100000 in
theorem markM_ok {v : Value} {l : List (List Int)} {ok2 : Nat → Prop} (p k : Int) (hd : OwnD (kO 2 kI) 22 W H ok2 v l) (hl : (l.length ≤ 1048576 ∧ ∀ x ∈ l, x.length ≤ 1048576)) (q : Int) (hq : 0 ≤ q ∧ q ≤ 4194304) : ACalls Tryd.prog W 19 #[.agg #[.int .i64 p, .int .i64 k, v], .int .i64 q] H (fun r H' => (∃ kl, r = .int .i64 (q + offs l l.length) ∧ sameLen kl l ∧ heldL q l kl l.length ∧ OwnD (kO 2 kI) 22 W H' ok2 v kl) ∧ But ok2 H H') := by
  refine ACalls.of (args := [.agg #[.int .i64 p, .int .i64 k, v], .int .i64 q]) Tryd.func19 rfl rfl ?_
  have X0 := Ext.refl H
  refine AW.rs ?_
  refine AL.w rfl (.inl rfl) (WV.bx rfl rfl) ?_
  rintro _ H2 ⟨b1, rfl, hx3, hn4, hb5⟩
  have o6 := Nat.le_trans X0.bd hn4
  have X7 := Ext.trans X0 hx3
  have ho8 := hd.ext hx3
  have X9 := Ext.refl H2
  refine AL.val rfl (.inl rfl) (HV.as rfl) ?_
  refine AL.nx ?_
  refine AW.rs ?_
  refine AL.val rfl (.inl rfl) (HV.fa fl25_2 rfl) ?_
  refine AL.val rfl (.inl rfl) (HV.ld rfl va23 (at_cell_add (j := 2) hb5 rfl)) ?_
  refine AL.val rfl (.inl rfl) (HV.mv rfl) ?_
  refine AL.w rfl (.inl rfl) (WV.call fn32 rfl (markSS2_ok ho8 hl q (by omega))) ?_
  rintro _ H10 ⟨⟨kl11, rfl, hk12, hh13, ho15⟩, hx14⟩
  refine AL.val rfl (.inl rfl) (HV.as rfl) ?_
  refine AL.nx ?_
  refine AW.rs ?_
  refine AL.val rfl (.inl rfl) (HV.mv rfl) ?_
  refine AL.val rfl (.inl rfl) (HV.as rfl) ?_
  refine AL.nx ?_
  refine AW.ret ?_
  refine post_one rfl rfl ?_ (.inr rfl)
  exact ⟨⟨kl11, rfl, hk12, hh13, ho15⟩, But.trans (Ext.but X7 _) hx14⟩

set_option maxRecDepth 100000 in
theorem markSc_ok {vo v : Value} {o : List Int} {l : List (List Int)} {ok1 ok2 : Nat → Prop} (n p k : Int) (ho : OwnK kI 2 W H ok1 vo o) (hd : OwnD (kO 2 kI) 22 W H ok2 v l) (hap : ∀ b, ok1 b → ok2 b → False) (hW2 : ∀ b, ok2 b → W.heap.size ≤ b) (hol : o.length ≤ 1048576) (hl : (l.length ≤ 1048576 ∧ ∀ x ∈ l, x.length ≤ 1048576)) (q : Int) (hq : 0 ≤ q ∧ q ≤ 1048576) : ACalls Tryd.prog W 7 #[.agg #[.int .i64 n, vo, .int .i64 p, .int .i64 k, v], .int .i64 q] H (fun r H' => (∃ ko kl, r = .int .i64 (q + (o.length : Int) + offs l l.length) ∧ ko.length = o.length ∧ (∀ j : Nat, j < ko.length → ko.getD j 0 = q + (j : Int)) ∧ sameLen kl l ∧ heldL (q + (o.length : Int)) l kl l.length ∧ OwnK kI 2 W H' ok1 vo ko ∧ OwnD (kO 2 kI) 22 W H' ok2 v kl) ∧ But (fun b => ok1 b ∨ ok2 b) H H') := by
  refine ACalls.of (args := [.agg #[.int .i64 n, vo, .int .i64 p, .int .i64 k, v], .int .i64 q]) Tryd.func7 rfl rfl ?_
  have X0 := Ext.refl H
  refine AW.rs ?_
  refine AL.w rfl (.inl rfl) (WV.bx rfl rfl) ?_
  rintro _ H2 ⟨b1, rfl, hx3, hn4, hb5⟩
  have o6 := Nat.le_trans X0.bd hn4
  have X7 := Ext.trans X0 hx3
  have ho8 := ho.ext hx3
  have ho9 := hd.ext hx3
  have X10 := Ext.refl H2
  refine AL.val rfl (.inl rfl) (HV.as rfl) ?_
  refine AL.nx ?_
  refine AW.rs ?_
  refine AL.val rfl (.inl rfl) (HV.fa fl27_1 rfl) ?_
  refine AL.val rfl (.inl rfl) (HV.ld rfl va22 (at_cell_add (j := 1) hb5 rfl)) ?_
  refine AL.val rfl (.inl rfl) (HV.mv rfl) ?_
  refine AL.w rfl (.inl rfl) (WV.call fn18 rfl (markS_ok q ho8 (by omega))) ?_
  rintro _ H8 ⟨ko, rfl, hko, hho, hx8, ho8⟩
  have hd8 := ho9.but hx8 (fun b hb _ e => hap b (ho8.blk b e).1 hb) (fun b e => (ho8.blk b e).2.2)
  have hb8 := hb5.but hx8 (fun e => by have a1 := ho.ltb _ e; have a2 := o6; omega)
  refine AL.val rfl (.inl rfl) (HV.as rfl) ?_
  refine AL.nx ?_
  refine AW.rs ?_
  refine AL.val rfl (.inl rfl) (HV.fa fl27_2 rfl) ?_
  refine AL.val rfl (.inl rfl) (HV.lda (cs := [.int .i64 p, .int .i64 k, v]) rfl va25 (at_cells hb8 rfl)) ?_
  refine AL.val rfl (.inl rfl) (HV.mv rfl) ?_
  refine AL.w rfl (.inl rfl) (WV.call fn19 rfl (markM_ok p k hd8 hl (q + (o.length : Int)) (by omega))) ?_
  rintro _ H9 ⟨⟨kl, rfl, hkl, hhl, hd9⟩, hx9⟩
  have ho9 := ho8.but hx9 (fun b h1 _ e => hap b h1 e) (fun b e => hW2 b e)
  refine AL.val rfl (.inl rfl) (HV.as rfl) ?_
  refine AL.nx ?_
  refine AW.rs ?_
  refine AL.val rfl (.inl rfl) (HV.mv rfl) ?_
  refine AL.val rfl (.inl rfl) (HV.as rfl) ?_
  refine AL.nx ?_
  refine AW.ret ?_
  refine post_one rfl rfl ?_ (.inr rfl)
  exact ⟨⟨ko, kl, rfl, hko, hho, hkl, hhl, ho9, hd9⟩, But.trans (Ext.but X7 _) (But.trans (But.mono hx8 (fun b e => .inl (ho8.blk b e).1)) (But.mono hx9 (fun b e => .inr e)))⟩

set_option maxRecDepth 100000 in
theorem heldM_ok {v : Value} {kl l : List (List Int)} {ok : Nat → Prop} (p k : Int) (hr : RdK (kR kI) W H ok v kl) (q : Int) (hq : 0 ≤ q ∧ q ≤ 4194304) (hl : (l.length ≤ 1048576 ∧ ∀ x ∈ l, x.length ≤ 1048576)) (hk : sameLen kl l) (hh : heldL q l kl l.length) : ACalls Tryd.prog W 21 #[.agg #[.int .i64 p, .int .i64 k, v], .int .i64 q] H (fun r H' => r = .int .i64 (q + offs l l.length) ∧ Ext H H') := by
  refine ACalls.of (args := [.agg #[.int .i64 p, .int .i64 k, v], .int .i64 q]) Tryd.func21 rfl rfl ?_
  have X0 := Ext.refl H
  have hm1 := hr.max
  have hof := offs_le (B := 1048576) hl.2 l.length (Nat.le_refl _)
  refine AW.rs ?_
  refine AL.w rfl (.inl rfl) (WV.bx rfl rfl) ?_
  rintro _ H3 ⟨b2, rfl, hx4, hn5, hb6⟩
  have o7 := Nat.le_trans X0.bd hn5
  have X8 := Ext.trans X0 hx4
  have X9 := Ext.refl H3
  refine AL.val rfl (.inl rfl) (HV.as rfl) ?_
  refine AL.nx ?_
  refine AW.rs ?_
  refine AL.val rfl (.inl rfl) (HV.fa fl25_2 rfl) ?_
  refine AL.val rfl (.inl rfl) (HV.ld rfl va23 (at_cell_add (j := 2) hb6 rfl)) ?_
  refine AL.val rfl (.inl rfl) (HV.mv rfl) ?_
  refine AL.w rfl (.inl rfl) (WV.call fn33 rfl (heldSS_ok q (hr.ext X8) hq hl hk hh)) ?_
  rintro _ H10 ⟨rfl, hx11⟩
  have X12 := Ext.trans X8 hx11
  have X13 := Ext.trans X9 hx11
  have hb14 := hb6.ext hx11
  refine AL.val rfl (.inl rfl) (HV.as rfl) ?_
  refine AL.nx ?_
  refine AW.seq ?_
  refine AW.rs ?_
  refine AL.val rfl (.inl rfl) (HV.mv rfl) ?_
  refine AL.val rfl (.inl rfl) (HV.lti rfl rfl) ?_
  refine AL.nx ?_
  refine AW.ifd rfl (fun c15 => ?_) (fun c15 => ?_)
  · -- then
    refine AW.rs ?_
    refine AL.val rfl (.inl rfl) (HV.as rfl) ?_
    refine AL.nx ?_
    refine AW.ret ?_
    refine ret_and ?_
    refine post_one rfl rfl ?_ (.inr rfl)
    exfalso; omega
  · -- else
    refine AW.skip ?_
    refine nrm_and ?_
    refine AW.rs ?_
    refine AL.val rfl (.inl rfl) (HV.mv rfl) ?_
    refine AL.val rfl (.inl rfl) (HV.as rfl) ?_
    refine AL.nx ?_
    refine AW.ret ?_
    refine post_one rfl rfl ?_ (.inr rfl)
    exact ⟨rfl, X12⟩

set_option maxRecDepth 100000 in
theorem heldSc_ok {vo v : Value} {ko o : List Int} {kl l : List (List Int)} {oko ok : Nat → Prop} (n p k : Int) (ho : RdK kI W H oko vo ko) (hr : RdK (kR kI) W H ok v kl) (q : Int) (hq : 0 ≤ q ∧ q ≤ 1048576) (hol : o.length ≤ 1048576) (hko : ko.length = o.length) (hho : ∀ j : Nat, j < ko.length → ko.getD j 0 = q + (j : Int)) (hl : (l.length ≤ 1048576 ∧ ∀ x ∈ l, x.length ≤ 1048576)) (hk : sameLen kl l) (hh : heldL (q + (o.length : Int)) l kl l.length) : ACalls Tryd.prog W 8 #[.agg #[.int .i64 n, vo, .int .i64 p, .int .i64 k, v], .int .i64 q] H (fun r H' => r = .int .i64 (q + (o.length : Int) + offs l l.length) ∧ Ext H H') := by
  refine ACalls.of (args := [.agg #[.int .i64 n, vo, .int .i64 p, .int .i64 k, v], .int .i64 q]) Tryd.func8 rfl rfl ?_
  have X0 := Ext.refl H
  have hm1 := ho.max
  have hm2 := hr.max
  have hof := offs_le (B := 1048576) hl.2 l.length (Nat.le_refl _)
  refine AW.rs ?_
  refine AL.w rfl (.inl rfl) (WV.bx rfl rfl) ?_
  rintro _ H4 ⟨b3, rfl, hx5, hn6, hb7⟩
  have o8 := Nat.le_trans X0.bd hn6
  have X9 := Ext.trans X0 hx5
  have X10 := Ext.refl H4
  refine AL.val rfl (.inl rfl) (HV.as rfl) ?_
  refine AL.nx ?_
  refine AW.rs ?_
  refine AL.val rfl (.inl rfl) (HV.fa fl27_1 rfl) ?_
  refine AL.val rfl (.inl rfl) (HV.ld rfl va22 (at_cell_add (j := 1) hb7 rfl)) ?_
  refine AL.val rfl (.inl rfl) (HV.mv rfl) ?_
  refine AL.w rfl (.inl rfl) (WV.call fn20 rfl ((hko ▸ heldS_ok q (ho.ext X9) (by omega) hho : ACalls Tryd.prog W 20 #[vo, .int .i64 q] _ (fun r H' => r = .int .i64 (q + (o.length : Int)) ∧ Ext _ H')))) ?_
  rintro _ H11 ⟨rfl, hx12⟩
  have X13 := Ext.trans X9 hx12
  have X14 := Ext.trans X10 hx12
  have hb15 := hb7.ext hx12
  refine AL.val rfl (.inl rfl) (HV.as rfl) ?_
  refine AL.nx ?_
  refine AW.seq ?_
  refine AW.rs ?_
  refine AL.val rfl (.inl rfl) (HV.mv rfl) ?_
  refine AL.val rfl (.inl rfl) (HV.lti rfl rfl) ?_
  refine AL.nx ?_
  refine AW.ifd rfl (fun c16 => ?_) (fun c16 => ?_)
  · -- then
    refine AW.rs ?_
    refine AL.val rfl (.inl rfl) (HV.as rfl) ?_
    refine AL.nx ?_
    refine AW.ret ?_
    refine ret_and ?_
    refine post_one rfl rfl ?_ (.inr rfl)
    exfalso; omega
  · -- else
    refine AW.skip ?_
    refine nrm_and ?_
    refine AW.rs ?_
    refine AL.val rfl (.inl rfl) (HV.fa fl27_2 rfl) ?_
    refine AL.val rfl (.inl rfl) (HV.lda (cs := [.int .i64 p, .int .i64 k, v]) rfl va25 (at_cells hb15 rfl)) ?_
    refine AL.val rfl (.inl rfl) (HV.mv rfl) ?_
    refine AL.w rfl (.inl rfl) (WV.call fn21 rfl (heldM_ok p k (hr.ext X13) (q + (o.length : Int)) (by omega) hl hk hh)) ?_
    rintro _ H17 ⟨rfl, hx18⟩
    have X19 := Ext.trans X13 hx18
    have X20 := Ext.trans X14 hx18
    have hb21 := hb15.ext hx18
    refine AL.val rfl (.inl rfl) (HV.as rfl) ?_
    refine AL.nx ?_
    refine AW.seq ?_
    refine AW.rs ?_
    refine AL.val rfl (.inl rfl) (HV.mv rfl) ?_
    refine AL.val rfl (.inl rfl) (HV.lti rfl rfl) ?_
    refine AL.nx ?_
    refine AW.ifd rfl (fun c22 => ?_) (fun c22 => ?_)
    · -- then
      refine AW.rs ?_
      refine AL.val rfl (.inl rfl) (HV.as rfl) ?_
      refine AL.nx ?_
      refine AW.ret ?_
      refine ret_and ?_
      refine post_one rfl rfl ?_ (.inr rfl)
      exfalso; omega
    · -- else
      refine AW.skip ?_
      refine nrm_and ?_
      refine AW.rs ?_
      refine AL.val rfl (.inl rfl) (HV.mv rfl) ?_
      refine AL.val rfl (.inl rfl) (HV.as rfl) ?_
      refine AL.nx ?_
      refine AW.ret ?_
      refine post_one rfl rfl ?_ (.inr rfl)
      exact ⟨rfl, X19⟩

set_option maxRecDepth 100000 in
set_option maxHeartbeats 4000000 in
theorem law_ReadScheme {t : List Int} (hE : Env W) (hb : isB t) (hW : W.heap.size ≤ H.bd) : ACalls Tryd.prog W 3 #[.string (bytesOf t)] H (fun r H' => r = .bool true ∧ Ext H H') := by
  refine ACalls.of (args := [.string (bytesOf t)]) Tryd.func3 rfl rfl ?_
  have X0 := Ext.refl H
  refine AW.rs ?_
  refine AL.val rfl (.inl rfl) (HV.as rfl) ?_
  refine AL.nx ?_
  refine AW.seq ?_
  refine AW.rs ?_
  refine AL.val rfl (.inl rfl) (HV.mv rfl) ?_
  refine AL.val rfl (.inl rfl) (HV.lenB Tryd.underlying9 rfl) ?_
  refine AL.val rfl (.inl rfl) (HV.gti rfl rfl) ?_
  refine AL.nx ?_
  refine AW.ifd rfl (fun c1 => ?_) (fun c1 => ?_)
  · -- then
    refine AW.rs ?_
    refine AL.val rfl (.inl rfl) (HV.as rfl) ?_
    refine AL.nx ?_
    refine AW.ret ?_
    refine ret_and ?_
    refine post_one rfl rfl ?_ (.inr rfl)
    exact ⟨rfl, X0⟩
  · -- else
    refine AW.skip ?_
    refine nrm_and ?_
    refine AW.rs ?_
    refine AL.val rfl (.inl rfl) (HV.mv rfl) ?_
    have o2 := X0.bd
    refine AL.w rfl (.inl rfl) (WV.call fn4 rfl (specRd_ok hb)) ?_
    rintro _ H6 ⟨⟨u3, v4, la5, rfl, ho8, ho9⟩, hx7⟩
    have X12 := Ext.trans X0 hx7
    have X13 := Ext.refl H6
    have hr10 := ho8.rd
    have hr11 := rd_ofO ho9.rd
    refine AL.val rfl (.inl rfl) (HV.mv rfl) ?_
    refine AL.val rfl (.inl rfl) (HV.ex rfl rfl) ?_
    refine AL.val rfl (.inl rfl) (HV.ex rfl rfl) ?_
    refine AL.w rfl (.inl rfl) (WV.al ze27 rfl) ?_
    rintro _ H15 ⟨b14, rfl, hx16, hn17, hb18⟩
    have o19 := Nat.le_trans X12.bd hn17
    have o20 := Nat.le_trans X13.bd hn17
    have X21 := Ext.trans X12 hx16
    have X22 := Ext.trans X13 hx16
    have X23 := Ext.refl H15
    refine AL.w0 (.inl rfl) (WV.st rfl rfl va27 rfl hb18 (Nat.le_of_ble_eq_true rfl) (one_cons rfl (one_cons (sl_one1 (hr10.ext X22).isSl) (one_cons rfl (one_cons rfl (one_cons (sl_one1 (hr11.ext X22).isSl) one_nil)))))) ?_
    rintro _ H24 ⟨hx25, hb26⟩
    have X27 := Ext.thru X21 hx25 (fun z_ hz_ => by rw [hz_]; exact o19)
    have X28 := Ext.thru X22 hx25 (fun z_ hz_ => by rw [hz_]; exact o20)
    have q30 := Nat.le_trans X23.bd hx25.bd
    have hb31 : At W H24 b14 ⟨27, [.int .i64 ((rdS (spF t) t).n), u3, .int .i64 ((rdS (spF t) t).p), .int .i64 ((rdS (spF t) t).k), v4], 5⟩ := hb26
    refine AL.val rfl (.inl rfl) (HV.as rfl) ?_
    refine AL.nx ?_
    refine AW.rs ?_
    refine AL.val rfl (.inl rfl) (HV.mv rfl) ?_
    have X32 := Ext.refl H24
    have y33 := hb31.lt
    have o34 := X27.bd
    have o35 := X28.bd
    have o36 := X32.bd
    refine AL.w rfl (.inl rfl) (WV.call fn5 rfl (implRd_sp hE hb)) ?_
    rintro _ H40 ⟨⟨u37, v38, la39, rfl, ho42, ho43⟩, hx41⟩
    have q46 := Nat.le_trans q30 hx41.bd
    have X47 := Ext.trans X27 hx41
    have X48 := Ext.trans X28 hx41
    have X49 := Ext.trans X32 hx41
    have hb50 := hb31.ext hx41
    have X51 := Ext.refl H40
    have hr44 := ho42.okk (ok' := fun b => (H24.bd ≤ b ∧ la39 b = 0) ∧ b < H40.bd) (fun b hb hlt => ⟨hb, hlt⟩)
    have hr45 := ho43.okk (ok' := fun b => (H24.bd ≤ b ∧ la39 b = 1) ∧ b < H40.bd) (fun b hb hlt => ⟨hb, hlt⟩)
    refine AL.val rfl (.inl rfl) (HV.mv rfl) ?_
    refine AL.val rfl (.inl rfl) (HV.ex rfl rfl) ?_
    refine AL.val rfl (.inl rfl) (HV.ex rfl rfl) ?_
    refine AL.w rfl (.inl rfl) (WV.al ze27 rfl) ?_
    rintro _ H55 ⟨b54, rfl, hx56, hn57, hb58⟩
    have o59 := Nat.le_trans X47.bd hn57
    have o60 := Nat.le_trans X48.bd hn57
    have o61 := Nat.le_trans X49.bd hn57
    have o62 := Nat.le_trans X51.bd hn57
    have o63 := Nat.le_trans q46 hn57
    have ne64 : b14 ≠ b54 := by have := hb50.lt; omega
    have q65 := Nat.le_trans q46 hx56.bd
    have X66 := Ext.trans X47 hx56
    have X67 := Ext.trans X48 hx56
    have X68 := Ext.trans X49 hx56
    have X69 := Ext.trans X51 hx56
    have ho70 := hr44.ext hx56
    have ho71 := hr45.ext hx56
    have hb72 := hb50.ext hx56
    have X73 := Ext.refl H55
    refine AL.w0 (.inl rfl) (WV.st rfl rfl va27 rfl hb58 (Nat.le_of_ble_eq_true rfl) (one_cons rfl (one_cons (sl_one1 ho70.rd.isSl) (one_cons rfl (one_cons rfl (one_cons (sl_one1 (rd_ofO ho71.rd).isSl) one_nil)))))) ?_
    rintro _ H74 ⟨hx75, hb76⟩
    have q77 := Nat.le_trans q65 hx75.bd
    have X78 := Ext.thru X66 hx75 (fun z_ hz_ => by rw [hz_]; exact o59)
    have X79 := Ext.thru X67 hx75 (fun z_ hz_ => by rw [hz_]; exact o60)
    have X80 := Ext.thru X68 hx75 (fun z_ hz_ => by rw [hz_]; exact o61)
    have X81 := Ext.thru X69 hx75 (fun z_ hz_ => by rw [hz_]; exact o62)
    have q83 := Nat.le_trans X73.bd hx75.bd
    have ho84 := ho70.but hx75 (fun b hb _ e => by have hb' : (H24.bd ≤ b ∧ la39 b = 0) ∧ b < H40.bd := hb; have e' : b = b54 := e; omega) (fun z_ hz_ => by rw [hz_]; exact hb58.w)
    have ho85 := ho71.but hx75 (fun b hb _ e => by have hb' : (H24.bd ≤ b ∧ la39 b = 1) ∧ b < H40.bd := hb; have e' : b = b54 := e; omega) (fun z_ hz_ => by rw [hz_]; exact hb58.w)
    have hb86 := hb72.but hx75 ne64
    have hb87 : At W H74 b54 ⟨27, [.int .i64 ((rdS (spF t) t).n), u37, .int .i64 ((rdS (spF t) t).p), .int .i64 ((rdS (spF t) t).k), v38], 5⟩ := hb76
    refine AL.val rfl (.inl rfl) (HV.as rfl) ?_
    refine AL.nx ?_
    refine AW.seq ?_
    refine AW.rs ?_
    refine AL.val rfl (.inl rfl) (HV.lda (cs := [.int .i64 ((rdS (spF t) t).n), u37, .int .i64 ((rdS (spF t) t).p), .int .i64 ((rdS (spF t) t).k), v38]) rfl va27 (at_cells hb87 rfl)) ?_
    refine AL.val rfl (.inl rfl) (HV.lda (cs := [.int .i64 ((rdS (spF t) t).n), u3, .int .i64 ((rdS (spF t) t).p), .int .i64 ((rdS (spF t) t).k), v4]) rfl va27 (at_cells hb86 rfl)) ?_
    refine AL.w rfl (.inl rfl) (WV.call fn6 rfl (eqSc_ok ((rdS (spF t) t).n) ((rdS (spF t) t).p) ((rdS (spF t) t).k) ((rdS (spF t) t).n) ((rdS (spF t) t).p) ((rdS (spF t) t).k) ho84.rd (rd_ofO ho85.rd) (hr10.ext X79) (hr11.ext X79))) ?_
    rintro _ H88 ⟨rfl, hx89⟩
    have q90 := Nat.le_trans q77 hx89.bd
    have q91 := Nat.le_trans q83 hx89.bd
    have X92 := Ext.trans X78 hx89
    have X93 := Ext.trans X79 hx89
    have X94 := Ext.trans X80 hx89
    have X95 := Ext.trans X81 hx89
    have ho96 := ho84.ext hx89
    have ho97 := ho85.ext hx89
    have hb98 := hb86.ext hx89
    have hb99 := hb87.ext hx89
    refine AL.val rfl (.inl rfl) (HV.not rfl) ?_
    refine AL.val rfl (.inl rfl) (HV.mv rfl) ?_
    by_cases c100 : ((rdS (spF t) t).n) = ((rdS (spF t) t).n) ∧ ((rdS (spF t) t).o) = ((rdS (spF t) t).o) ∧ ((rdS (spF t) t).p) = ((rdS (spF t) t).p) ∧ ((rdS (spF t) t).k) = ((rdS (spF t) t).k) ∧ ((rdS (spF t) t).l) = ((rdS (spF t) t).l)
    · -- false
      have c100_ : (!decide (((rdS (spF t) t).n) = ((rdS (spF t) t).n) ∧ ((rdS (spF t) t).o) = ((rdS (spF t) t).o) ∧ ((rdS (spF t) t).p) = ((rdS (spF t) t).p) ∧ ((rdS (spF t) t).k) = ((rdS (spF t) t).k) ∧ ((rdS (spF t) t).l) = ((rdS (spF t) t).l))) = false := by rw [decide_eq_true c100]; rfl
      rw [c100_]
      refine AL.val rfl (.inr ⟨_, _, _, rfl, rfl, rfl⟩) (HV.mv rfl) ?_
      refine AL.val rfl (.inr ⟨_, _, _, rfl, rfl, rfl⟩) (HV.mv rfl) ?_
      refine AL.val rfl (.inr ⟨_, _, _, rfl, rfl, rfl⟩) (HV.nei rfl rfl) ?_
      refine AL.val rfl (.inl rfl) (HV.pickF rfl rfl) ?_
      refine AL.nx ?_
      refine AW.ifd rfl (fun c101 => ?_) (fun c101 => ?_)
      · -- then
        refine AW.rs ?_
        refine AL.val rfl (.inl rfl) (HV.as rfl) ?_
        refine AL.nx ?_
        refine AW.ret ?_
        refine ret_and ?_
        refine post_one rfl rfl ?_ (.inr rfl)
        exfalso; first | omega | (simp at c101; done) | exact c101 ⟨rfl, rfl, rfl, rfl, rfl⟩ | exact absurd c101 (by simp)
      · -- else
        refine AW.skip ?_
        refine nrm_and ?_
        refine AW.rs ?_
        refine AL.val rfl (.inl rfl) (HV.as rfl) ?_
        refine AL.nx ?_
        refine AW.rs ?_
        refine AL.val rfl (.inl rfl) (HV.lda (cs := [.int .i64 ((rdS (spF t) t).n), u37, .int .i64 ((rdS (spF t) t).p), .int .i64 ((rdS (spF t) t).k), v38]) rfl va27 (at_cells hb99 rfl)) ?_
        refine AL.val rfl (.inl rfl) (HV.mv rfl) ?_
        refine AL.w rfl (.inl rfl) (WV.call fn7 rfl (markSc_ok ((rdS (spF t) t).n) ((rdS (spF t) t).p) ((rdS (spF t) t).k) ho96 ho97 (fun b h1 h2 => by have a1 := h1.1.2; have a2 := h2.1.2; omega) (fun b h => by have a1 : H24.bd ≤ b := h.1.1; omega) (rd_len (t := t)).1 (rd_len (t := t)).2 1 (by omega))) ?_
        rintro _ H102 ⟨⟨ko103, kl104, rfl, e107, e108, e109, e110, ho111, ho112⟩, hx105⟩
        have hx106 := But.mono hx105 (fun b e => (e.elim (fun q => ⟨q.1.1, q.2⟩) (fun q => ⟨q.1.1, q.2⟩) : H24.bd ≤ b ∧ b < H40.bd))
        have hof113 := offs_le (B := 1048576) ((rd_len (t := t))).2.2 ((rdS (spF t) t).l).length (Nat.le_refl _)
        have q116 := Nat.le_trans q90 hx106.bd
        have q117 := Nat.le_trans q91 hx106.bd
        have X118 := Ext.thru X92 hx106 (fun b hb => Nat.le_trans o34 hb.1)
        have X119 := Ext.thru X93 hx106 (fun b hb => Nat.le_trans o35 hb.1)
        have X120 := Ext.thru X94 hx106 (fun b hb => Nat.le_trans o36 hb.1)
        have q122 := Nat.le_trans X95.bd hx106.bd
        have hb123 := hb98.but hx106 (fun e => by have q : H24.bd ≤ b14 ∧ b14 < H40.bd := e; omega)
        have hb124 := hb99.but hx106 (fun e => by have q : H24.bd ≤ b54 ∧ b54 < H40.bd := e; omega)
        refine AL.val rfl (.inl rfl) (HV.as rfl) ?_
        refine AL.nx ?_
        refine AW.rs ?_
        refine AL.val rfl (.inl rfl) (HV.as rfl) ?_
        refine AL.nx ?_
        refine AW.rs ?_
        refine AL.val rfl (.inl rfl) (HV.lda (cs := [.int .i64 ((rdS (spF t) t).n), u37, .int .i64 ((rdS (spF t) t).p), .int .i64 ((rdS (spF t) t).k), v38]) rfl va27 (at_cells hb124 rfl)) ?_
        refine AL.val rfl (.inl rfl) (HV.mv rfl) ?_
        have hbz := (rd_len (t := t))
        refine AL.w rfl (.inl rfl) (WV.call fn8 rfl (heldSc_ok ((rdS (spF t) t).n) ((rdS (spF t) t).p) ((rdS (spF t) t).k) ho111.rd (rd_ofO ho112.rd) 1 (by omega) hbz.1 e107 e108 hbz.2 e109 e110)) ?_
        rintro _ H125 ⟨rfl, hx126⟩
        have q127 := Nat.le_trans q116 hx126.bd
        have q128 := Nat.le_trans q117 hx126.bd
        have q129 := Nat.le_trans q122 hx126.bd
        have X130 := Ext.trans X118 hx126
        have X131 := Ext.trans X119 hx126
        have X132 := Ext.trans X120 hx126
        have ho133 := ho111.ext hx126
        have ho134 := ho112.ext hx126
        have hb135 := hb123.ext hx126
        have hb136 := hb124.ext hx126
        refine AL.val rfl (.inl rfl) (HV.as rfl) ?_
        refine AL.nx ?_
        refine AW.seq ?_
        refine AW.rs ?_
        refine AL.val rfl (.inl rfl) (HV.mv rfl) ?_
        refine AL.val rfl (.inl rfl) (HV.lti rfl rfl) ?_
        refine AL.nx ?_
        refine AW.ifd rfl (fun c137 => ?_) (fun c137 => ?_)
        · -- then
          refine AW.rs ?_
          refine AL.val rfl (.inl rfl) (HV.as rfl) ?_
          refine AL.nx ?_
          refine AW.ret ?_
          refine ret_and ?_
          refine post_one rfl rfl ?_ (.inr rfl)
          exfalso; first | omega | (simp at c137; done) | exact c137 ⟨rfl, rfl, rfl, rfl, rfl⟩ | exact absurd c137 (by simp)
        · -- else
          refine AW.skip ?_
          refine nrm_and ?_
          refine AW.seq ?_
          refine AW.rs ?_
          refine AL.val rfl (.inl rfl) (HV.mv rfl) ?_
          refine AL.val rfl (.inl rfl) (HV.mv rfl) ?_
          refine AL.val rfl (.inl rfl) (HV.nei rfl rfl) ?_
          refine AL.nx ?_
          refine AW.ifd rfl (fun c138 => ?_) (fun c138 => ?_)
          · -- then
            refine AW.rs ?_
            refine AL.val rfl (.inl rfl) (HV.as rfl) ?_
            refine AL.nx ?_
            refine AW.ret ?_
            refine ret_and ?_
            refine post_one rfl rfl ?_ (.inr rfl)
            exfalso; first | omega | (simp at c138; done) | exact c138 ⟨rfl, rfl, rfl, rfl, rfl⟩ | exact absurd c138 (by simp)
          · -- else
            refine AW.skip ?_
            refine nrm_and ?_
            refine AW.rs ?_
            refine AL.val rfl (.inl rfl) (HV.mv rfl) ?_
            have X139 := Ext.refl H125
            have y140 := hb135.lt
            have y141 := hb136.lt
            have o142 := X130.bd
            have o143 := X131.bd
            have o144 := X132.bd
            have o145 := X139.bd
            have a146 := ho133.ltb
            have a147 := ho134.ltb
            refine AL.w rfl (.inl rfl) (WV.call fn5 rfl (implRd_sp hE hb)) ?_
            rintro _ H151 ⟨⟨u148, v149, la150, rfl, ho153, ho154⟩, hx152⟩
            have q157 := Nat.le_trans q127 hx152.bd
            have q158 := Nat.le_trans q128 hx152.bd
            have q159 := Nat.le_trans q129 hx152.bd
            have X160 := Ext.trans X130 hx152
            have X161 := Ext.trans X131 hx152
            have X162 := Ext.trans X132 hx152
            have X163 := Ext.trans X139 hx152
            have ho164 := ho133.ext hx152
            have ho165 := ho134.ext hx152
            have hb166 := hb135.ext hx152
            have hb167 := hb136.ext hx152
            have X168 := Ext.refl H151
            have hr155 := ho153.rd
            have hr156 := rd_ofO ho154.rd
            refine AL.val rfl (.inl rfl) (HV.mv rfl) ?_
            refine AL.val rfl (.inl rfl) (HV.ex rfl rfl) ?_
            refine AL.val rfl (.inl rfl) (HV.ex rfl rfl) ?_
            refine AL.w rfl (.inl rfl) (WV.al ze27 rfl) ?_
            rintro _ H170 ⟨b169, rfl, hx171, hn172, hb173⟩
            have o174 := Nat.le_trans X160.bd hn172
            have o175 := Nat.le_trans X161.bd hn172
            have o176 := Nat.le_trans X162.bd hn172
            have o177 := Nat.le_trans X163.bd hn172
            have o178 := Nat.le_trans X168.bd hn172
            have o179 := Nat.le_trans q157 hn172
            have o180 := Nat.le_trans q158 hn172
            have o181 := Nat.le_trans q159 hn172
            have ne182 : b14 ≠ b169 := by have := hb166.lt; omega
            have ne183 : b54 ≠ b169 := by have := hb167.lt; omega
            have q184 := Nat.le_trans q157 hx171.bd
            have q185 := Nat.le_trans q158 hx171.bd
            have q186 := Nat.le_trans q159 hx171.bd
            have X187 := Ext.trans X160 hx171
            have X188 := Ext.trans X161 hx171
            have X189 := Ext.trans X162 hx171
            have X190 := Ext.trans X163 hx171
            have X191 := Ext.trans X168 hx171
            have ho192 := ho164.ext hx171
            have ho193 := ho165.ext hx171
            have hb194 := hb166.ext hx171
            have hb195 := hb167.ext hx171
            have X196 := Ext.refl H170
            refine AL.w0 (.inl rfl) (WV.st rfl rfl va27 rfl hb173 (Nat.le_of_ble_eq_true rfl) (one_cons rfl (one_cons (sl_one1 (hr155.ext X191).isSl) (one_cons rfl (one_cons rfl (one_cons (sl_one1 (hr156.ext X191).isSl) one_nil)))))) ?_
            rintro _ H197 ⟨hx198, hb199⟩
            have q200 := Nat.le_trans q184 hx198.bd
            have q201 := Nat.le_trans q185 hx198.bd
            have q202 := Nat.le_trans q186 hx198.bd
            have X203 := Ext.thru X187 hx198 (fun z_ hz_ => by rw [hz_]; exact o174)
            have X204 := Ext.thru X188 hx198 (fun z_ hz_ => by rw [hz_]; exact o175)
            have X205 := Ext.thru X189 hx198 (fun z_ hz_ => by rw [hz_]; exact o176)
            have X206 := Ext.thru X190 hx198 (fun z_ hz_ => by rw [hz_]; exact o177)
            have X207 := Ext.thru X191 hx198 (fun z_ hz_ => by rw [hz_]; exact o178)
            have q209 := Nat.le_trans X196.bd hx198.bd
            have ho210 := ho192.but hx198 (fun b hb _ e => by have hb' : (H24.bd ≤ b ∧ la39 b = 0) ∧ b < H40.bd := hb; have e' : b = b169 := e; omega) (fun z_ hz_ => by rw [hz_]; exact hb173.w)
            have ho211 := ho193.but hx198 (fun b hb _ e => by have hb' : (H24.bd ≤ b ∧ la39 b = 1) ∧ b < H40.bd := hb; have e' : b = b169 := e; omega) (fun z_ hz_ => by rw [hz_]; exact hb173.w)
            have hb212 := hb194.but hx198 ne182
            have hb213 := hb195.but hx198 ne183
            have hb214 : At W H197 b169 ⟨27, [.int .i64 ((rdS (spF t) t).n), u148, .int .i64 ((rdS (spF t) t).p), .int .i64 ((rdS (spF t) t).k), v149], 5⟩ := hb199
            refine AL.val rfl (.inl rfl) (HV.as rfl) ?_
            refine AL.nx ?_
            refine AW.seq ?_
            refine AW.rs ?_
            refine AL.val rfl (.inl rfl) (HV.lda (cs := [.int .i64 ((rdS (spF t) t).n), u148, .int .i64 ((rdS (spF t) t).p), .int .i64 ((rdS (spF t) t).k), v149]) rfl va27 (at_cells hb214 rfl)) ?_
            refine AL.val rfl (.inl rfl) (HV.lda (cs := [.int .i64 ((rdS (spF t) t).n), u3, .int .i64 ((rdS (spF t) t).p), .int .i64 ((rdS (spF t) t).k), v4]) rfl va27 (at_cells hb212 rfl)) ?_
            refine AL.w rfl (.inl rfl) (WV.call fn6 rfl (eqSc_ok ((rdS (spF t) t).n) ((rdS (spF t) t).p) ((rdS (spF t) t).k) ((rdS (spF t) t).n) ((rdS (spF t) t).p) ((rdS (spF t) t).k) (hr155.ext X207) (hr156.ext X207) (hr10.ext X204) (hr11.ext X204))) ?_
            rintro _ H215 ⟨rfl, hx216⟩
            have q217 := Nat.le_trans q200 hx216.bd
            have q218 := Nat.le_trans q201 hx216.bd
            have q219 := Nat.le_trans q202 hx216.bd
            have q220 := Nat.le_trans q209 hx216.bd
            have X221 := Ext.trans X203 hx216
            have X222 := Ext.trans X204 hx216
            have X223 := Ext.trans X205 hx216
            have X224 := Ext.trans X206 hx216
            have X225 := Ext.trans X207 hx216
            have ho226 := ho210.ext hx216
            have ho227 := ho211.ext hx216
            have hb228 := hb212.ext hx216
            have hb229 := hb213.ext hx216
            have hb230 := hb214.ext hx216
            refine AL.val rfl (.inl rfl) (HV.not rfl) ?_
            refine AL.val rfl (.inl rfl) (HV.mv rfl) ?_
            by_cases c231 : ((rdS (spF t) t).n) = ((rdS (spF t) t).n) ∧ ((rdS (spF t) t).o) = ((rdS (spF t) t).o) ∧ ((rdS (spF t) t).p) = ((rdS (spF t) t).p) ∧ ((rdS (spF t) t).k) = ((rdS (spF t) t).k) ∧ ((rdS (spF t) t).l) = ((rdS (spF t) t).l)
            · -- false
              have c231_ : (!decide (((rdS (spF t) t).n) = ((rdS (spF t) t).n) ∧ ((rdS (spF t) t).o) = ((rdS (spF t) t).o) ∧ ((rdS (spF t) t).p) = ((rdS (spF t) t).p) ∧ ((rdS (spF t) t).k) = ((rdS (spF t) t).k) ∧ ((rdS (spF t) t).l) = ((rdS (spF t) t).l))) = false := by rw [decide_eq_true c231]; rfl
              rw [c231_]
              refine AL.val rfl (.inr ⟨_, _, _, rfl, rfl, rfl⟩) (HV.mv rfl) ?_
              refine AL.val rfl (.inr ⟨_, _, _, rfl, rfl, rfl⟩) (HV.mv rfl) ?_
              refine AL.val rfl (.inr ⟨_, _, _, rfl, rfl, rfl⟩) (HV.nei rfl rfl) ?_
              refine AL.val rfl (.inl rfl) (HV.pickF rfl rfl) ?_
              refine AL.nx ?_
              refine AW.ifd rfl (fun c232 => ?_) (fun c232 => ?_)
              · -- then
                refine AW.rs ?_
                refine AL.val rfl (.inl rfl) (HV.as rfl) ?_
                refine AL.nx ?_
                refine AW.ret ?_
                refine ret_and ?_
                refine post_one rfl rfl ?_ (.inr rfl)
                exfalso; first | omega | (simp at c232; done) | exact c232 ⟨rfl, rfl, rfl, rfl, rfl⟩ | exact absurd c232 (by simp)
              · -- else
                refine AW.skip ?_
                refine nrm_and ?_
                refine AW.rs ?_
                refine AL.val rfl (.inl rfl) (HV.as rfl) ?_
                refine AL.nx ?_
                refine AW.rs ?_
                refine AL.val rfl (.inl rfl) (HV.lda (cs := [.int .i64 ((rdS (spF t) t).n), u37, .int .i64 ((rdS (spF t) t).p), .int .i64 ((rdS (spF t) t).k), v38]) rfl va27 (at_cells hb229 rfl)) ?_
                refine AL.val rfl (.inl rfl) (HV.mv rfl) ?_
                have hbz := (rd_len (t := t))
                refine AL.w rfl (.inl rfl) (WV.call fn8 rfl (heldSc_ok ((rdS (spF t) t).n) ((rdS (spF t) t).p) ((rdS (spF t) t).k) ho226.rd (rd_ofO ho227.rd) 1 (by omega) hbz.1 e107 e108 hbz.2 e109 e110)) ?_
                rintro _ H233 ⟨rfl, hx234⟩
                have q235 := Nat.le_trans q217 hx234.bd
                have q236 := Nat.le_trans q218 hx234.bd
                have q237 := Nat.le_trans q219 hx234.bd
                have q238 := Nat.le_trans q220 hx234.bd
                have X239 := Ext.trans X221 hx234
                have X240 := Ext.trans X222 hx234
                have X241 := Ext.trans X223 hx234
                have X242 := Ext.trans X224 hx234
                have X243 := Ext.trans X225 hx234
                have ho244 := ho226.ext hx234
                have ho245 := ho227.ext hx234
                have hb246 := hb228.ext hx234
                have hb247 := hb229.ext hx234
                have hb248 := hb230.ext hx234
                refine AL.val rfl (.inl rfl) (HV.as rfl) ?_
                refine AL.nx ?_
                refine AW.seq ?_
                refine AW.rs ?_
                refine AL.val rfl (.inl rfl) (HV.mv rfl) ?_
                refine AL.val rfl (.inl rfl) (HV.lti rfl rfl) ?_
                refine AL.nx ?_
                refine AW.ifd rfl (fun c249 => ?_) (fun c249 => ?_)
                · -- then
                  refine AW.rs ?_
                  refine AL.val rfl (.inl rfl) (HV.as rfl) ?_
                  refine AL.nx ?_
                  refine AW.ret ?_
                  refine ret_and ?_
                  refine post_one rfl rfl ?_ (.inr rfl)
                  exfalso; first | omega | (simp at c249; done) | exact c249 ⟨rfl, rfl, rfl, rfl, rfl⟩ | exact absurd c249 (by simp)
                · -- else
                  refine AW.skip ?_
                  refine nrm_and ?_
                  refine AW.seq ?_
                  refine AW.rs ?_
                  refine AL.val rfl (.inl rfl) (HV.mv rfl) ?_
                  refine AL.val rfl (.inl rfl) (HV.mv rfl) ?_
                  refine AL.val rfl (.inl rfl) (HV.nei rfl rfl) ?_
                  refine AL.nx ?_
                  refine AW.ifd rfl (fun c250 => ?_) (fun c250 => ?_)
                  · -- then
                    refine AW.rs ?_
                    refine AL.val rfl (.inl rfl) (HV.as rfl) ?_
                    refine AL.nx ?_
                    refine AW.ret ?_
                    refine ret_and ?_
                    refine post_one rfl rfl ?_ (.inr rfl)
                    exfalso; first | omega | (simp at c250; done) | exact c250 ⟨rfl, rfl, rfl, rfl, rfl⟩ | exact absurd c250 (by simp)
                  · -- else
                    refine AW.skip ?_
                    refine nrm_and ?_
                    refine AW.rs ?_
                    refine AL.val rfl (.inl rfl) (HV.as rfl) ?_
                    refine AL.nx ?_
                    refine AW.ret ?_
                    refine post_one rfl rfl ?_ (.inr rfl)
                    exact ⟨rfl, X239⟩
            · -- true
              have c231_ : (!decide (((rdS (spF t) t).n) = ((rdS (spF t) t).n) ∧ ((rdS (spF t) t).o) = ((rdS (spF t) t).o) ∧ ((rdS (spF t) t).p) = ((rdS (spF t) t).p) ∧ ((rdS (spF t) t).k) = ((rdS (spF t) t).k) ∧ ((rdS (spF t) t).l) = ((rdS (spF t) t).l))) = true := by rw [decide_eq_false c231]; rfl
              rw [c231_]
              refine AL.off rfl rfl (by decide) rfl ?_
              refine AL.off rfl rfl (by decide) rfl ?_
              refine AL.off rfl rfl (by decide) rfl ?_
              refine AL.val rfl (.inl rfl) (HV.pickT rfl rfl) ?_
              refine AL.nx ?_
              refine AW.cond rfl (fun _ => ?_) (fun h => by cases h)
              refine AW.rs ?_
              refine AL.val rfl (.inl rfl) (HV.as rfl) ?_
              refine AL.nx ?_
              refine AW.ret ?_
              refine ret_and ?_
              refine post_one rfl rfl ?_ (.inr rfl)
              exfalso; first | omega | (simp at c231; done) | exact c231 ⟨rfl, rfl, rfl, rfl, rfl⟩ | exact absurd c231 (by simp)
    · -- true
      have c100_ : (!decide (((rdS (spF t) t).n) = ((rdS (spF t) t).n) ∧ ((rdS (spF t) t).o) = ((rdS (spF t) t).o) ∧ ((rdS (spF t) t).p) = ((rdS (spF t) t).p) ∧ ((rdS (spF t) t).k) = ((rdS (spF t) t).k) ∧ ((rdS (spF t) t).l) = ((rdS (spF t) t).l))) = true := by rw [decide_eq_false c100]; rfl
      rw [c100_]
      refine AL.off rfl rfl (by decide) rfl ?_
      refine AL.off rfl rfl (by decide) rfl ?_
      refine AL.off rfl rfl (by decide) rfl ?_
      refine AL.val rfl (.inl rfl) (HV.pickT rfl rfl) ?_
      refine AL.nx ?_
      refine AW.cond rfl (fun _ => ?_) (fun h => by cases h)
      refine AW.rs ?_
      refine AL.val rfl (.inl rfl) (HV.as rfl) ?_
      refine AL.nx ?_
      refine AW.ret ?_
      refine ret_and ?_
      refine post_one rfl rfl ?_ (.inr rfl)
      exfalso; first | omega | (simp at c100; done) | exact c100 ⟨rfl, rfl, rfl, rfl, rfl⟩ | exact absurd c100 (by simp)
end Go.Proofs.YteajnanbfkcdcaaDoor.VC
