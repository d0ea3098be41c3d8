/- Walks. -/
import Derived.Test.YteajnanbfkcdcaaDoorVR4
set_option linter.unusedVariables false
set_option linter.unusedSimpArgs false
namespace Go.Proofs.YteajnanbfkcdcaaDoor.VC
open Go Go.RowKit
/-! ### How the reference reads -/
theorem spF_h {t z k : List Int} {b : Bool} (hz : (spI 10 t)[0]? = some z) (hm : mm numF ((spI 32 z).drop 1) = (if b = true then some k else none)) : mm numF (spI 32 ((spI 10 t).headD [])).tail = (if b = true then some k else none) := by
  rw [hd_at hz, ← List.drop_one]; exact hm
theorem last_at {l : List (List Int)} {z : List Int} {q : Int} (h : l[q.toNat]? = some z) (e : q = (l.length : Int) - 1) : l.getLastD [] = z := by
  have h2 : q.toNat = l.length - 1 := by omega
  rw [h2] at h
  rw [List.getLastD_eq_getLast?, List.getLast?_eq_getElem?, h]; rfl
theorem mids_len (l : List (List Int)) : (mids l).length = l.length - 2 := by
  unfold mids; rw [List.length_dropLast, List.length_tail]; omega
theorem mid_at {l : List (List Int)} {z : List Int} {q : Int} {i : Nat} (h : l[q.toNat]? = some z) (e : q = (i : Int) + 1) (hi : i + 2 < l.length) : (mids l)[i]? = some z := by
  have h2 : q.toNat = i + 1 := by omega
  rw [h2] at h
  unfold mids
  rw [List.getElem?_dropLast, if_pos (by rw [List.length_tail]; omega), List.getElem?_tail]
  exact h
theorem rlS_no {z : List Int} (h : ∀ c r, (spI 32 z)[0]? = some rowW → (spI 32 z)[1]? = some [c] → 65 ≤ c → c ≤ 71 → mm numF ((spI 32 z).drop 2) = some r → False) : rlS z = none := by
  cases e : rlS z with
  | none => rfl
  | some y =>
    exfalso
    unfold rlS at e
    split at e
    · rename_i w0 c rest hs
      split at e
      · rename_i hc
        split at e
        · cases e
        · rename_i r hm
          rw [hs] at h
          exact h c r (by rw [hc.1]; rfl) rfl hc.2.1 hc.2.2 hm
      · cases e
    · cases e
theorem rlS_no1 {z : List Int} (h : (spI 32 z).length < 2) : rlS z = none := rlS_no (fun c r _ h1 _ _ _ => by have := (List.getElem?_eq_some_iff.1 h1).1; omega)
theorem rlS_no2 {z w0 : List Int} (h : (spI 32 z)[0]? = some w0) (e : ¬ w0 = [114, 111, 119]) : rlS z = none := rlS_no (fun c r h0 _ _ _ _ => by rw [h] at h0; cases h0; exact e rfl)
theorem rlS_no3 {z w1 : List Int} (h : (spI 32 z)[1]? = some w1) (e : w1.length ≠ 1) : rlS z = none := rlS_no (fun c r _ h1 _ _ _ => by rw [h] at h1; cases h1; exact e rfl)
theorem rlS_no4 {z w1 : List Int} (h : (spI 32 z)[1]? = some w1) (e : ¬ (65 ≤ w1.getD 0 0 ∧ w1.getD 0 0 ≤ 71)) : rlS z = none := rlS_no (fun c r _ h1 a b _ => by rw [h] at h1; cases h1; exact e ⟨a, b⟩)
theorem rlS_no5 {z : List Int} (h : mm numF ((spI 32 z).drop 2) = none) : rlS z = none := rlS_no (fun c r _ _ _ _ hm => by rw [h] at hm; cases hm)
theorem rlS_yes {z w0 w1 k r : List Int} {a : Int} (h0 : (spI 32 z)[0]? = some w0) (h1 : (spI 32 z)[1]? = some w1) (e0 : w0 = [114, 111, 119]) (e1 : w1.length = 1) (hr : 65 ≤ w1.getD 0 0 ∧ w1.getD 0 0 ≤ 71) (hk : k = [w1.getD 0 0 - 65]) (ha : k[0]? = some a) (hm : mm numF ((spI 32 z).drop 2) = some r) : rlS z = some (a, r) := by
  match w1, e1 with
  | [c], _ =>
    subst e0 hk
    cases ha
    unfold rlS
    generalize spI 32 z = s at h0 h1 hm
    match s, h0, h1, hm with
    | x :: y :: rest, h0, h1, hm =>
      cases h0; cases h1
      simp only [List.drop_succ_cons, List.drop_zero] at hm
      simp only [hm]
      exact if_pos (by first | exact ⟨rfl, hr⟩ | exact ⟨trivial, hr⟩ | exact hr)
variable {W : World} {H : Hp}

set_option maxRecDepth 100000 in
set_option maxHeartbeats 4000000 in
theorem specRd_ok {t : List Int} (hb : isB t) : ACalls Tryd.prog W 4 #[.string (bytesOf t)] H (fun r H' => (∃ (u v : Value) (la : Nat → Nat), r = .tuple #[.agg #[.int .i64 (rdS (spF t) t).n, u, .int .i64 (rdS (spF t) t).p, .int .i64 (rdS (spF t) t).k, v], .int .i64 (rdC (spF t) t)] ∧ OwnK kI 2 W H' (fun b => H.bd ≤ b ∧ la b = 0) u (rdS (spF t) t).o ∧ OwnD (kO 2 kI) 22 W H' (fun b => H.bd ≤ b ∧ la b = 1) v (rdS (spF t) t).l) ∧ Ext H H') := by
  refine ACalls.of (args := [.string (bytesOf t)]) Tryd.func4 rfl rfl ?_
  have X0 := Ext.refl H
  refine AW.rs ?_
  refine AL.w rfl (.inl rfl) (WV.al ze27 rfl) ?_
  rintro _ H2 ⟨b1, rfl, hx3, hn4, hb5⟩
  have o6 := Nat.le_trans X0.bd hn4
  have X7 := Ext.trans X0 hx3
  have X8 := Ext.refl H2
  refine AL.val rfl (.inl rfl) (HV.as rfl) ?_
  refine AL.nx ?_
  refine AW.seq ?_
  refine AW.rs ?_
  refine AL.val rfl (.inl rfl) (HV.mv rfl) ?_
  refine AL.val rfl (.inl rfl) (HV.lenB Tryd.underlying9 rfl) ?_
  refine AL.val rfl (.inl rfl) (HV.gti rfl rfl) ?_
  refine AL.nx ?_
  refine AW.ifd rfl (fun c9 => ?_) (fun c9 => ?_)
  · -- then
    refine AW.rs ?_
    refine AL.val rfl (.inl rfl) (HV.bd rfl (bd27_ )) ?_
    refine AL.w0 (.inl rfl) (WV.st rfl rfl va27 rfl hb5 (Nat.le_of_ble_eq_true rfl) (one_cons rfl (one_cons (sl_one1 ⟨none, 0, rfl⟩) (one_cons rfl (one_cons rfl (one_cons (sl_one1 ⟨none, 0, rfl⟩) one_nil)))))) ?_
    rintro _ H10 ⟨hx11, hb12⟩
    have X13 := Ext.thru X7 hx11 (fun z_ hz_ => by rw [hz_]; exact o6)
    have q15 := Nat.le_trans X8.bd hx11.bd
    have hb16 : At W H10 b1 ⟨27, [.int .i64 0, (.slice none 0 0), .int .i64 0, .int .i64 0, (.slice none 0 0)], 5⟩ := hb12
    refine AL.val rfl (.inl rfl) (HV.as rfl) ?_
    refine AL.nx ?_
    refine AW.ret ?_
    refine ret_and ?_
    refine post_ct rfl rfl rfl va27 hb16 ?_ (.inr rfl)
    have hq := rd_2 (F := spF t) (t := t) (by omega); exact ⟨⟨.slice none 0 0, .slice none 0 0, fun _ => 0, by rw [hq.1, hq.2], by rw [hq.2]; exact OwnK.nil _, by rw [hq.2]; exact OwnD.nil _⟩, X13⟩
  · -- else
    refine AW.skip ?_
    refine nrm_and ?_
    refine AW.rs ?_
    refine AL.val rfl (.inl rfl) (HV.mv rfl) ?_
    have y17 := hb5.lt
    have o18 := X7.bd
    have o19 := X8.bd
    refine AL.w rfl (.inl rfl) (WV.call fn9 rfl (split_ok (c := 10) hb (by omega))) ?_
    rintro v20 H21 ⟨hx22, ho23⟩
    have X25 := Ext.trans X7 hx22
    have X26 := Ext.trans X8 hx22
    have hb27 := hb5.ext hx22
    have X28 := Ext.refl H21
    have hsl24 := sp_len (c := 10) t
    have hr29 := ho23.rd
    refine AL.val rfl (.inl rfl) (HV.as rfl) ?_
    refine AL.nx ?_
    refine AW.rs ?_
    refine AL.val rfl (.inl rfl) (HV.mv rfl) ?_
    have hn10 := List.length_pos_iff.2 (spI_ne 10 t)
    obtain ⟨p30, z31, cs32, hz33, hK34, hC35, hP36⟩ := RdK.ix (q := 0) hr29 sl33 (by omega) (by omega)
    obtain ⟨rfl, hB37⟩ := hK34
    refine AL.val rfl (.inl rfl) (hP36 rfl rfl) ?_
    refine AL.val rfl (.inl rfl) (HV.ld rfl va9 (cells_first hC35 rfl)) ?_
    have hz0l := hsl24.2 _ (List.mem_of_getElem? hz33)
    have hn32 := List.length_pos_iff.2 (spI_ne 32 z31)
    have y38 := hb27.lt
    have o39 := X25.bd
    have o40 := X26.bd
    have o41 := X28.bd
    refine AL.w rfl (.inl rfl) (WV.call fn9 rfl (split_ok (c := 32) hB37 (by omega))) ?_
    rintro v42 H43 ⟨hx44, ho45⟩
    have X47 := Ext.trans X25 hx44
    have X48 := Ext.trans X26 hx44
    have X49 := Ext.trans X28 hx44
    have hb50 := hb27.ext hx44
    have X51 := Ext.refl H43
    have hsl46 := sp_len (c := 32) z31
    have hr52 := ho45.rd
    refine AL.val rfl (.inl rfl) (HV.as rfl) ?_
    refine AL.nx ?_
    refine AW.rs ?_
    refine AL.val rfl (.inl rfl) (HV.mv rfl) ?_
    have y53 := hb50.lt
    have o54 := X47.bd
    have o55 := X48.bd
    have o56 := X49.bd
    have o57 := X51.bd
    refine AL.w rfl (.inl rfl) (WV.call fn10 rfl (nums_ok (f := 1) hr52 rfl (by constructor; (omega); (exact fun p hp => by have := hsl46.2 p hp; omega)))) ?_
    rintro _ H62 ⟨⟨v58, k59, b60, rfl, ho64, hm61⟩, hx63⟩
    have X65 := Ext.trans X47 hx63
    have X66 := Ext.trans X48 hx63
    have X67 := Ext.trans X49 hx63
    have X68 := Ext.trans X51 hx63
    have hb69 := hb50.ext hx63
    have X70 := Ext.refl H62
    refine AL.val rfl (.inl rfl) (HV.mv rfl) ?_
    refine AL.val rfl (.inl rfl) (HV.ex rfl rfl) ?_
    refine AL.val rfl (.inl rfl) (HV.ex rfl rfl) ?_
    refine AL.val rfl (.inl rfl) (HV.as rfl) ?_
    refine AL.val rfl (.inl rfl) (HV.as rfl) ?_
    refine AL.nx ?_
    refine AW.seq ?_
    refine AW.rs ?_
    have hh := spF_h (getq (j := 0) hz33 rfl) hm61
    refine AL.val rfl (.inl rfl) (HV.mv rfl) ?_
    refine AL.val rfl (.inl rfl) (HV.not rfl) ?_
    refine AL.val rfl (.inl rfl) (HV.mv rfl) ?_
    cases c72 : (!b60)
    · -- false
      refine AL.val rfl (.inr ⟨_, _, _, rfl, rfl, rfl⟩) (HV.mv rfl) ?_
      obtain ⟨p73, z74, cs75, hz76, hK77, hC78, hP79⟩ := RdK.ix (q := 0) hr52 sl33 (by omega) (by omega)
      obtain ⟨rfl, hB80⟩ := hK77
      refine AL.val rfl (.inr ⟨_, _, _, rfl, rfl, rfl⟩) (hP79 rfl rfl) ?_
      refine AL.val rfl (.inr ⟨_, _, _, rfl, rfl, rfl⟩) (HV.ld rfl va9 (cells_first (hC78.ext X68) rfl)) ?_
      refine AL.val rfl (.inr ⟨_, _, _, rfl, rfl, rfl⟩) (HV.neB (a := z74) (b := [115, 99, 104, 101, 109, 101]) hB80 (show ∀ x ∈ ([115, 99, 104, 101, 109, 101] : List Int), 0 ≤ x ∧ x ≤ 255 by decide) rfl rfl) ?_
      refine AL.val rfl (.inl rfl) (HV.pickF rfl rfl) ?_
      refine AL.val rfl (.inl rfl) (HV.mv rfl) ?_
      by_cases c81 : ¬ (z74 = [115, 99, 104, 101, 109, 101])
      · -- true
        have c81_ : decide (¬ (z74 = [115, 99, 104, 101, 109, 101])) = true := decide_eq_true c81
        rw [c81_]
        refine AL.off rfl rfl (by decide) rfl ?_
        refine AL.off rfl rfl (by decide) rfl ?_
        refine AL.off rfl rfl (by decide) rfl ?_
        refine AL.val rfl (.inl rfl) (HV.pickT rfl rfl) ?_
        refine AL.val rfl (.inl rfl) (HV.mv rfl) ?_
        refine AL.off rfl rfl (by decide) rfl ?_
        refine AL.off rfl rfl (by decide) rfl ?_
        refine AL.off rfl rfl (by decide) rfl ?_
        refine AL.val rfl (.inl rfl) (HV.pickT rfl rfl) ?_
        refine AL.val rfl (.inl rfl) (HV.mv rfl) ?_
        refine AL.off rfl rfl (by decide) rfl ?_
        refine AL.off rfl rfl (by decide) rfl ?_
        refine AL.off rfl rfl (by decide) rfl ?_
        refine AL.off rfl rfl (by decide) rfl ?_
        refine AL.off rfl rfl (by decide) rfl ?_
        refine AL.off rfl rfl (by decide) rfl ?_
        refine AL.off rfl rfl (by decide) rfl ?_
        refine AL.val rfl (.inl rfl) (HV.pickT rfl rfl) ?_
        refine AL.nx ?_
        refine AW.cond rfl (fun _ => ?_) (fun h => by cases h)
        refine AW.rs ?_
        refine AL.val rfl (.inl rfl) (HV.bd rfl (bd27_ )) ?_
        refine AL.w0 (.inl rfl) (WV.st rfl rfl va27 rfl hb69 (Nat.le_of_ble_eq_true rfl) (one_cons rfl (one_cons (sl_one1 ⟨none, 0, rfl⟩) (one_cons rfl (one_cons rfl (one_cons (sl_one1 ⟨none, 0, rfl⟩) one_nil)))))) ?_
        rintro _ H83 ⟨hx84, hb85⟩
        have X86 := Ext.thru X65 hx84 (fun z_ hz_ => by rw [hz_]; exact o6)
        have q88 := Nat.le_trans X66.bd hx84.bd
        have q90 := Nat.le_trans X67.bd hx84.bd
        have q92 := Nat.le_trans X68.bd hx84.bd
        have q94 := Nat.le_trans X70.bd hx84.bd
        have ho95 := ho64.but hx84 (fun b hb _ e => by have hb' : H43.bd ≤ b := hb; have e' : b = b1 := e; omega) (fun z_ hz_ => by rw [hz_]; exact hb69.w)
        have hb96 : At W H83 b1 ⟨27, [.int .i64 0, (.slice none 0 0), .int .i64 0, .int .i64 0, (.slice none 0 0)], 5⟩ := hb85
        refine AL.val rfl (.inl rfl) (HV.as rfl) ?_
        refine AL.nx ?_
        refine AW.ret ?_
        refine ret_and ?_
        refine post_ct rfl rfl rfl va27 hb96 ?_ (.inr rfl)
        have hq := rd_5 (F := spF t) (t := t) (by omega) ((by first | exact spF_no1 (by rw [hh]; have hb_ : b60 = false := (by simpa using (by assumption : (!b60) = true)); rw [hb_]; rfl) | (have hb_ : b60 = true := (by simpa using (by assumption : (!b60) = false)); rw [hb_, if_pos rfl] at hh; exact spF_no3 hh (fun q => absurd ((hd_at (getq (j := 0) hz76 rfl)).symm.trans (by have q1 := q.1; rw [hd_at (getq (j := 0) hz33 rfl)] at q1; exact q1)) (by assumption : ¬ z74 = [115, 99, 104, 101, 109, 101]))) | (have hb_ : b60 = true := (by simpa using (by assumption : (!b60) = false)); rw [hb_, if_pos rfl] at hh; exact spF_no2 hh (by omega)) | (have hb_ : b60 = true := (by simpa using (by assumption : (!b60) = false)); rw [hb_, if_pos rfl] at hh; exact spF_no3 hh (fun q => by have q2 := q.2.1; omega)))); exact ⟨⟨.slice none 0 0, .slice none 0 0, fun _ => 0, by rw [hq.1, hq.2], by rw [hq.2]; exact OwnK.nil _, by rw [hq.2]; exact OwnD.nil _⟩, X86⟩
      · -- false
        have c81_ : decide (¬ (z74 = [115, 99, 104, 101, 109, 101])) = false := decide_eq_false c81
        rw [c81_]
        refine AL.val rfl (.inr ⟨_, _, _, rfl, rfl, rfl⟩) (HV.mv rfl) ?_
        refine AL.val rfl (.inr ⟨_, _, _, rfl, rfl, rfl⟩) (HV.len Tryd.underlying22 rfl ho64.rd.isSl) ?_
        refine AL.val rfl (.inr ⟨_, _, _, rfl, rfl, rfl⟩) (HV.nei rfl rfl) ?_
        refine AL.val rfl (.inl rfl) (HV.pickF rfl rfl) ?_
        refine AL.val rfl (.inl rfl) (HV.mv rfl) ?_
        by_cases c97 : (k59.length : Int) ≠ 3
        · -- true
          have c97_ : decide ((k59.length : Int) ≠ 3) = true := decide_eq_true c97
          rw [c97_]
          refine AL.off rfl rfl (by decide) rfl ?_
          refine AL.off rfl rfl (by decide) rfl ?_
          refine AL.off rfl rfl (by decide) rfl ?_
          refine AL.val rfl (.inl rfl) (HV.pickT rfl rfl) ?_
          refine AL.val rfl (.inl rfl) (HV.mv rfl) ?_
          refine AL.off rfl rfl (by decide) rfl ?_
          refine AL.off rfl rfl (by decide) rfl ?_
          refine AL.off rfl rfl (by decide) rfl ?_
          refine AL.off rfl rfl (by decide) rfl ?_
          refine AL.off rfl rfl (by decide) rfl ?_
          refine AL.off rfl rfl (by decide) rfl ?_
          refine AL.off rfl rfl (by decide) rfl ?_
          refine AL.val rfl (.inl rfl) (HV.pickT rfl rfl) ?_
          refine AL.nx ?_
          refine AW.cond rfl (fun _ => ?_) (fun h => by cases h)
          refine AW.rs ?_
          refine AL.val rfl (.inl rfl) (HV.bd rfl (bd27_ )) ?_
          refine AL.w0 (.inl rfl) (WV.st rfl rfl va27 rfl hb69 (Nat.le_of_ble_eq_true rfl) (one_cons rfl (one_cons (sl_one1 ⟨none, 0, rfl⟩) (one_cons rfl (one_cons rfl (one_cons (sl_one1 ⟨none, 0, rfl⟩) one_nil)))))) ?_
          rintro _ H99 ⟨hx100, hb101⟩
          have X102 := Ext.thru X65 hx100 (fun z_ hz_ => by rw [hz_]; exact o6)
          have q104 := Nat.le_trans X66.bd hx100.bd
          have q106 := Nat.le_trans X67.bd hx100.bd
          have q108 := Nat.le_trans X68.bd hx100.bd
          have q110 := Nat.le_trans X70.bd hx100.bd
          have ho111 := ho64.but hx100 (fun b hb _ e => by have hb' : H43.bd ≤ b := hb; have e' : b = b1 := e; omega) (fun z_ hz_ => by rw [hz_]; exact hb69.w)
          have hb112 : At W H99 b1 ⟨27, [.int .i64 0, (.slice none 0 0), .int .i64 0, .int .i64 0, (.slice none 0 0)], 5⟩ := hb101
          refine AL.val rfl (.inl rfl) (HV.as rfl) ?_
          refine AL.nx ?_
          refine AW.ret ?_
          refine ret_and ?_
          refine post_ct rfl rfl rfl va27 hb112 ?_ (.inr rfl)
          have hq := rd_5 (F := spF t) (t := t) (by omega) ((by first | exact spF_no1 (by rw [hh]; have hb_ : b60 = false := (by simpa using (by assumption : (!b60) = true)); rw [hb_]; rfl) | (have hb_ : b60 = true := (by simpa using (by assumption : (!b60) = false)); rw [hb_, if_pos rfl] at hh; exact spF_no3 hh (fun q => absurd ((hd_at (getq (j := 0) hz76 rfl)).symm.trans (by have q1 := q.1; rw [hd_at (getq (j := 0) hz33 rfl)] at q1; exact q1)) (by assumption : ¬ z74 = [115, 99, 104, 101, 109, 101]))) | (have hb_ : b60 = true := (by simpa using (by assumption : (!b60) = false)); rw [hb_, if_pos rfl] at hh; exact spF_no2 hh (by omega)) | (have hb_ : b60 = true := (by simpa using (by assumption : (!b60) = false)); rw [hb_, if_pos rfl] at hh; exact spF_no3 hh (fun q => by have q2 := q.2.1; omega)))); exact ⟨⟨.slice none 0 0, .slice none 0 0, fun _ => 0, by rw [hq.1, hq.2], by rw [hq.2]; exact OwnK.nil _, by rw [hq.2]; exact OwnD.nil _⟩, X102⟩
        · -- false
          have c97_ : decide ((k59.length : Int) ≠ 3) = false := decide_eq_false c97
          rw [c97_]
          refine AL.val rfl (.inr ⟨_, _, _, rfl, rfl, rfl⟩) (HV.mv rfl) ?_
          refine AL.val rfl (.inr ⟨_, _, _, rfl, rfl, rfl⟩) (HV.len Tryd.underlying33 rfl hr29.isSl) ?_
          refine AL.val rfl (.inr ⟨_, _, _, rfl, rfl, rfl⟩) (HV.lti rfl rfl) ?_
          refine AL.val rfl (.inl rfl) (HV.pickF rfl rfl) ?_
          refine AL.val rfl (.inl rfl) (HV.mv rfl) ?_
          by_cases c113 : ((spI 10 t).length : Int) < 2
          · -- true
            have c113_ : decide (((spI 10 t).length : Int) < 2) = true := decide_eq_true c113
            rw [c113_]
            refine AL.off rfl rfl (by decide) rfl ?_
            refine AL.off rfl rfl (by decide) rfl ?_
            refine AL.off rfl rfl (by decide) rfl ?_
            refine AL.off rfl rfl (by decide) rfl ?_
            refine AL.off rfl rfl (by decide) rfl ?_
            refine AL.off rfl rfl (by decide) rfl ?_
            refine AL.off rfl rfl (by decide) rfl ?_
            refine AL.val rfl (.inl rfl) (HV.pickT rfl rfl) ?_
            refine AL.nx ?_
            refine AW.cond rfl (fun _ => ?_) (fun h => by cases h)
            refine AW.rs ?_
            refine AL.val rfl (.inl rfl) (HV.bd rfl (bd27_ )) ?_
            refine AL.w0 (.inl rfl) (WV.st rfl rfl va27 rfl hb69 (Nat.le_of_ble_eq_true rfl) (one_cons rfl (one_cons (sl_one1 ⟨none, 0, rfl⟩) (one_cons rfl (one_cons rfl (one_cons (sl_one1 ⟨none, 0, rfl⟩) one_nil)))))) ?_
            rintro _ H115 ⟨hx116, hb117⟩
            have X118 := Ext.thru X65 hx116 (fun z_ hz_ => by rw [hz_]; exact o6)
            have q120 := Nat.le_trans X66.bd hx116.bd
            have q122 := Nat.le_trans X67.bd hx116.bd
            have q124 := Nat.le_trans X68.bd hx116.bd
            have q126 := Nat.le_trans X70.bd hx116.bd
            have ho127 := ho64.but hx116 (fun b hb _ e => by have hb' : H43.bd ≤ b := hb; have e' : b = b1 := e; omega) (fun z_ hz_ => by rw [hz_]; exact hb69.w)
            have hb128 : At W H115 b1 ⟨27, [.int .i64 0, (.slice none 0 0), .int .i64 0, .int .i64 0, (.slice none 0 0)], 5⟩ := hb117
            refine AL.val rfl (.inl rfl) (HV.as rfl) ?_
            refine AL.nx ?_
            refine AW.ret ?_
            refine ret_and ?_
            refine post_ct rfl rfl rfl va27 hb128 ?_ (.inr rfl)
            have hq := rd_5 (F := spF t) (t := t) (by omega) ((by first | exact spF_no1 (by rw [hh]; have hb_ : b60 = false := (by simpa using (by assumption : (!b60) = true)); rw [hb_]; rfl) | (have hb_ : b60 = true := (by simpa using (by assumption : (!b60) = false)); rw [hb_, if_pos rfl] at hh; exact spF_no3 hh (fun q => absurd ((hd_at (getq (j := 0) hz76 rfl)).symm.trans (by have q1 := q.1; rw [hd_at (getq (j := 0) hz33 rfl)] at q1; exact q1)) (by assumption : ¬ z74 = [115, 99, 104, 101, 109, 101]))) | (have hb_ : b60 = true := (by simpa using (by assumption : (!b60) = false)); rw [hb_, if_pos rfl] at hh; exact spF_no2 hh (by omega)) | (have hb_ : b60 = true := (by simpa using (by assumption : (!b60) = false)); rw [hb_, if_pos rfl] at hh; exact spF_no3 hh (fun q => by have q2 := q.2.1; omega)))); exact ⟨⟨.slice none 0 0, .slice none 0 0, fun _ => 0, by rw [hq.1, hq.2], by rw [hq.2]; exact OwnK.nil _, by rw [hq.2]; exact OwnD.nil _⟩, X118⟩
          · -- false
            have c113_ : decide (((spI 10 t).length : Int) < 2) = false := decide_eq_false c113
            rw [c113_]
            refine AL.val rfl (.inr ⟨_, _, _, rfl, rfl, rfl⟩) (HV.mv rfl) ?_
            refine AL.val rfl (.inr ⟨_, _, _, rfl, rfl, rfl⟩) (HV.mv rfl) ?_
            refine AL.val rfl (.inr ⟨_, _, _, rfl, rfl, rfl⟩) (HV.len Tryd.underlying33 rfl hr29.isSl) ?_
            refine AL.val rfl (.inr ⟨_, _, _, rfl, rfl, rfl⟩) (HV.sub rfl rfl (by omega)) ?_
            obtain ⟨p129, z130, cs131, hz132, hK133, hC134, hP135⟩ := RdK.ix (q := ((spI 10 t).length : Int) - 1) hr29 sl33 (by omega) (by omega)
            obtain ⟨rfl, hB136⟩ := hK133
            refine AL.val rfl (.inr ⟨_, _, _, rfl, rfl, rfl⟩) (hP135 rfl rfl) ?_
            refine AL.val rfl (.inr ⟨_, _, _, rfl, rfl, rfl⟩) (HV.ld rfl va9 (cells_first (hC134.ext X67) rfl)) ?_
            refine AL.val rfl (.inr ⟨_, _, _, rfl, rfl, rfl⟩) (HV.neB (a := z130) (b := []) hB136 (show ∀ x ∈ ([] : List Int), 0 ≤ x ∧ x ≤ 255 by decide) rfl rfl) ?_
            refine AL.val rfl (.inl rfl) (HV.pickF rfl rfl) ?_
            refine AL.nx ?_
            refine AW.ifd rfl (fun c137 => ?_) (fun c137 => ?_)
            · -- then
              refine AW.rs ?_
              refine AL.val rfl (.inl rfl) (HV.bd rfl (bd27_ )) ?_
              refine AL.w0 (.inl rfl) (WV.st rfl rfl va27 rfl hb69 (Nat.le_of_ble_eq_true rfl) (one_cons rfl (one_cons (sl_one1 ⟨none, 0, rfl⟩) (one_cons rfl (one_cons rfl (one_cons (sl_one1 ⟨none, 0, rfl⟩) one_nil)))))) ?_
              rintro _ H138 ⟨hx139, hb140⟩
              have X141 := Ext.thru X65 hx139 (fun z_ hz_ => by rw [hz_]; exact o6)
              have q143 := Nat.le_trans X66.bd hx139.bd
              have q145 := Nat.le_trans X67.bd hx139.bd
              have q147 := Nat.le_trans X68.bd hx139.bd
              have q149 := Nat.le_trans X70.bd hx139.bd
              have ho150 := ho64.but hx139 (fun b hb _ e => by have hb' : H43.bd ≤ b := hb; have e' : b = b1 := e; omega) (fun z_ hz_ => by rw [hz_]; exact hb69.w)
              have hb151 : At W H138 b1 ⟨27, [.int .i64 0, (.slice none 0 0), .int .i64 0, .int .i64 0, (.slice none 0 0)], 5⟩ := hb140
              refine AL.val rfl (.inl rfl) (HV.as rfl) ?_
              refine AL.nx ?_
              refine AW.ret ?_
              refine ret_and ?_
              refine post_ct rfl rfl rfl va27 hb151 ?_ (.inr rfl)
              have hq := rd_5 (F := spF t) (t := t) (by omega) ((by first | exact spF_no1 (by rw [hh]; have hb_ : b60 = false := (by simpa using (by assumption : (!b60) = true)); rw [hb_]; rfl) | (have hb_ : b60 = true := (by simpa using (by assumption : (!b60) = false)); rw [hb_, if_pos rfl] at hh; exact spF_no3 hh (fun q => absurd ((hd_at (getq (j := 0) hz76 rfl)).symm.trans (by have q1 := q.1; rw [hd_at (getq (j := 0) hz33 rfl)] at q1; exact q1)) (by assumption : ¬ z74 = [115, 99, 104, 101, 109, 101]))) | (have hb_ : b60 = true := (by simpa using (by assumption : (!b60) = false)); rw [hb_, if_pos rfl] at hh; exact spF_no2 hh (by omega)) | (have hb_ : b60 = true := (by simpa using (by assumption : (!b60) = false)); rw [hb_, if_pos rfl] at hh; exact spF_no3 hh (fun q => by have q2 := q.2.1; omega)) | (have hb_ : b60 = true := (by simpa using (by assumption : (!b60) = false)); rw [hb_, if_pos rfl] at hh; exact spF_no3 hh (fun q => absurd ((last_at hz132 (by omega)).symm.trans q.2.2) (by assumption : ¬ z130 = []))))); exact ⟨⟨.slice none 0 0, .slice none 0 0, fun _ => 0, by rw [hq.1, hq.2], by rw [hq.2]; exact OwnK.nil _, by rw [hq.2]; exact OwnD.nil _⟩, X141⟩
            · -- else
              refine AW.skip ?_
              refine nrm_and ?_
              refine AW.seq ?_
              refine AW.draw' [0, 1, 3, 0, 8, 24, 0, 64, 192, 504, 1023, 0, 4095] mixed (by rfl) ?_
              have hb_ : b60 = true := (by simpa using (by assumption : (!b60) = false))
              rw [hb_, if_pos rfl] at hh
              have hk3 : k59.length = 3 := by omega
              have hC3 : (spI 32 ((spI 10 t).headD [])).headD [] = schW ∧ 2 ≤ (spI 10 t).length ∧ (spI 10 t).getLastD [] = [] := ⟨by rw [hd_at (getq (j := 0) hz33 rfl)]; exact (hd_at (getq (j := 0) hz76 rfl)).trans (Decidable.not_not.1 (by assumption)), by omega, (last_at hz132 (by omega)).trans (Decidable.not_not.1 (by assumption))⟩
              have hmdl := mids_len (spI 10 t)
              have hrB := ((hr29.ext X67)).lo
              have hHB : H.bd ≤ H62.bd := X65.bd
              have hb2lt : b1 < H62.bd := hb69.lt
              have hb2w := hb69.w
              refine Dr.read 0 _ 58 _ rfl rfl rfl rfl rfl (RV.of (by intro _ _ h; cases h) (.inl rfl) (fun _ xd => HV.mv rfl)) ?_
              obtain ⟨g152, z153, cs154, hz155, hK156, hC157, hg158, hP159⟩ := OwnK.ix (q := 0) ho64 sl22 (by omega) (by omega)
              obtain rfl : cs154 = [.int .i64 z153] := hK156
              refine Dr.read 1 _ 59 _ rfl rfl rfl rfl rfl (RV.of (by intro _ _ h; cases h) (.inl rfl) (fun _ xd => hP159 rfl rfl)) ?_
              refine Dr.read 2 _ 60 _ rfl rfl rfl rfl rfl (RV.of (by intro _ _ h; cases h) (.inl rfl) (fun _ xd => HV.ld rfl va2 (rdc_ext xd (cells_first hC157 rfl)))) ?_
              refine Dr.read 3 _ 61 _ rfl rfl rfl rfl rfl (RV.of (by intro _ _ h; cases h) (.inl rfl) (fun _ xd => HV.mv rfl)) ?_
              obtain ⟨g160, z161, cs162, hz163, hK164, hC165, hg166, hP167⟩ := OwnK.ix (q := 1) ho64 sl22 (by omega) (by omega)
              obtain rfl : cs162 = [.int .i64 z161] := hK164
              refine Dr.read 4 _ 62 _ rfl rfl rfl rfl rfl (RV.of (by intro _ _ h; cases h) (.inl rfl) (fun _ xd => hP167 rfl rfl)) ?_
              refine Dr.read 5 _ 63 _ rfl rfl rfl rfl rfl (RV.of (by intro _ _ h; cases h) (.inl rfl) (fun _ xd => HV.ld rfl va2 (rdc_ext xd (cells_first hC165 rfl)))) ?_
              refine Dr.read 6 _ 64 _ rfl rfl rfl rfl rfl (RV.of (by intro _ _ h; cases h) (.inl rfl) (fun _ xd => HV.mv rfl)) ?_
              obtain ⟨g168, z169, cs170, hz171, hK172, hC173, hg174, hP175⟩ := OwnK.ix (q := 2) ho64 sl22 (by omega) (by omega)
              obtain rfl : cs170 = [.int .i64 z169] := hK172
              refine Dr.read 7 _ 65 _ rfl rfl rfl rfl rfl (RV.of (by intro _ _ h; cases h) (.inl rfl) (fun _ xd => hP175 rfl rfl)) ?_
              refine Dr.read 8 _ 66 _ rfl rfl rfl rfl rfl (RV.of (by intro _ _ h; cases h) (.inl rfl) (fun _ xd => HV.ld rfl va2 (rdc_ext xd (cells_first hC173 rfl)))) ?_
              refine Dr.read 9 _ 67 _ rfl rfl rfl rfl rfl (RV.of (by intro _ _ h; cases h) (.inl rfl) (fun _ xd => HV.bd rfl (bd25_0_1 z161 z169))) ?_
              refine Dr.read 10 _ 68 _ rfl rfl rfl rfl rfl (RV.of (by intro _ _ h; cases h) (.inl rfl) (fun _ xd => HV.bd rfl (bd27_0_2 z153 z161 z169))) ?_
              refine Dr.eff 11 _ _ rfl (by intro d h; cases h; exact ⟨rfl, rfl⟩) rfl rfl rfl (EC.of (by intro _ _ h; cases h) (.inl rfl) (WV.al ze27 rfl)) (fun v H' h => .inl (h.choose_spec.2.1)) ?_
              rintro _ H177 ⟨b176, rfl, hx178, hn179, hb180⟩
              have o181 := Nat.le_trans X65.bd hn179
              have o182 := Nat.le_trans X66.bd hn179
              have o183 := Nat.le_trans X67.bd hn179
              have o184 := Nat.le_trans X68.bd hn179
              have o185 := Nat.le_trans X70.bd hn179
              have ne186 : b1 ≠ b176 := by have := hb69.lt; omega
              have X187 := Ext.trans X65 hx178
              have X188 := Ext.trans X66 hx178
              have X189 := Ext.trans X67 hx178
              have X190 := Ext.trans X68 hx178
              have X191 := Ext.trans X70 hx178
              have hb192 := hb69.ext hx178
              have X193 := Ext.refl H177
              refine Dr.eff 12 _ _ rfl (by intro d h; cases h) rfl rfl rfl (EC.of (by intro _ _ h; cases h) (.inl rfl) (WV.st rfl rfl va27 rfl hb180 (Nat.le_of_ble_eq_true rfl) (one_cons rfl (one_cons (sl_one1 ⟨none, 0, rfl⟩) (one_cons rfl (one_cons rfl (one_cons (sl_one1 ⟨none, 0, rfl⟩) one_nil))))))) (fun v H' h => .inr (.inl rfl)) ?_
              rintro _ H194 ⟨hx195, hb196⟩
              have X197 := Ext.thru X187 hx195 (fun z_ hz_ => by rw [hz_]; exact o181)
              have X198 := Ext.thru X188 hx195 (fun z_ hz_ => by rw [hz_]; exact o182)
              have X199 := Ext.thru X189 hx195 (fun z_ hz_ => by rw [hz_]; exact o183)
              have X200 := Ext.thru X190 hx195 (fun z_ hz_ => by rw [hz_]; exact o184)
              have X201 := Ext.thru X191 hx195 (fun z_ hz_ => by rw [hz_]; exact o185)
              have q203 := Nat.le_trans X193.bd hx195.bd
              have hb204 := hb192.but hx195 ne186
              have hb205 : At W H194 b176 ⟨27, [.int .i64 z153, (.slice none 0 0), .int .i64 z161, .int .i64 z169, (.slice none 0 0)], 5⟩ := hb196
              refine Dr.fin rfl ?_
              refine nrm_and ?_
              refine AW.seq ?_
              refine AW.rs ?_
              refine AL.val rfl (.inl rfl) (HV.as rfl) ?_
              refine AL.nx ?_
              refine AW.block ?_
              have hHBb : H62.bd ≤ b176 := o185
              obtain ⟨hdA_, ehdA_⟩ : ∃ q : Int, q = z153 := ⟨_, rfl⟩
              obtain ⟨hdB_, ehdB_⟩ : ∃ q : Int, q = z161 := ⟨_, rfl⟩
              obtain ⟨hdC_, ehdC_⟩ : ∃ q : Int, q = z169 := ⟨_, rfl⟩
              have hG206 : Gr W H194 27 b176 H62.bd hdA_ hdB_ hdC_ (([] : List (Int × List Int)).map Prod.fst) (([] : List (Int × List Int)).map Prod.snd) (.slice none 0 0) (.slice none 0 0) := ⟨fun _ => True, by rw [ehdA_, ehdB_, ehdC_]; exact hb205, OwnK.nil _, OwnD.nil _⟩
              have hrL0 := hrB.ext X201
              refine AW.loop (σ := Nat × List (Int × List Int) × Value × Value × Int) (fun ⟨i, rs, vo, vr, x⟩ => [(2, .pointer (some ⟨b1, 0, none⟩)), (4, v20), (8, .pointer (some ⟨b176, 0, none⟩)), (9, .int .i64 x)]) (fun ⟨i, rs, vo, vr, x⟩ H' => i ≤ (mids (spI 10 t)).length ∧ mm rlS ((mids (spI 10 t)).take i) = some rs ∧ x = (i : Int) + 1 ∧ But (fun b => H62.bd ≤ b) H194 H' ∧ Gr W H' 27 b176 H62.bd hdA_ hdB_ hdC_ (rs.map Prod.fst) (rs.map Prod.snd) vo vr ∧ True) (fun ⟨i, rs, vo, vr, x⟩ => (mids (spI 10 t)).length - i) (0, [], (.slice none 0 0), (.slice none 0 0), 1) ⟨Nat.zero_le _, rfl, by omega, But.refl _ _, hG206, trivial⟩ ⟨rfl, rfl, rfl, rfl, trivial⟩ ?_
              rintro ⟨i, rs, vo, vr, x⟩ H207 ⟨hi, hm, hx_, hBL, hG, _⟩
              have X208 := Ext.refl H207
              have hXL := Ext.thru X197 hBL (fun b e => Nat.le_trans hHB e)
              have hb2L := hb204.but hBL (fun e => by have q : H62.bd ≤ _ := e; omega)
              have hrL := hrL0.but hBL (fun b hb _ e => by have q1 : b < H62.bd := hb; have q2 : H62.bd ≤ b := e; omega) (fun b e => by have q2 : H62.bd ≤ b := e; omega)
              obtain ⟨S_, hat, hvo, hvr⟩ := hG
              have hvoL := hvo.ltb
              refine AW.seq ?_
              refine AW.rs ?_
              refine AL.val rfl (.inl rfl) (HV.mv rfl) ?_
              refine AL.val rfl (.inl rfl) (HV.add rfl rfl (by omega)) ?_
              refine AL.val rfl (.inl rfl) (HV.mv rfl) ?_
              refine AL.val rfl (.inl rfl) (HV.len Tryd.underlying33 rfl hrL.isSl) ?_
              refine AL.val rfl (.inl rfl) (HV.lti rfl rfl) ?_
              refine AL.nx ?_
              refine AW.ifd rfl (fun c209 => ?_) (fun c209 => ?_)
              · -- then
                refine AW.skip ?_
                refine nrm_and ?_
                refine AW.seq ?_
                refine AW.block ?_
                refine AW.rs ?_
                refine AL.val rfl (.inl rfl) (HV.mv rfl) ?_
                refine AL.val rfl (.inl rfl) (HV.mv rfl) ?_
                obtain ⟨p210, z211, cs212, hz213, hK214, hC215, hP216⟩ := RdK.ix (q := x) hrL sl33 (by omega) (by omega)
                obtain ⟨rfl, hB217⟩ := hK214
                refine AL.val rfl (.inl rfl) (hP216 rfl rfl) ?_
                refine AL.val rfl (.inl rfl) (HV.ld rfl va9 (cells_first hC215 rfl)) ?_
                have hzl := hsl24.2 _ (List.mem_of_getElem? hz213)
                have hmi := mid_at (i := i) hz213 (by omega) (by omega)
                have y218 := hb2L.lt
                have y219 := hat.lt
                have o220 := hXL.bd
                have o221 := X208.bd
                refine AL.w rfl (.inl rfl) (WV.call fn9 rfl (split_ok (c := 32) hB217 (by omega))) ?_
                rintro v222 H223 ⟨hx224, ho225⟩
                have X227 := Ext.trans hXL hx224
                have X228 := Ext.trans X208 hx224
                have hb229 := hb2L.ext hx224
                have hb230 := hat.ext hx224
                have X231 := Ext.refl H223
                have hsl226 := sp_len (c := 32) z211
                have hr232 := ho225.rd
                refine AL.val rfl (.inl rfl) (HV.as rfl) ?_
                refine AL.nx ?_
                refine AW.seq ?_
                refine AW.rs ?_
                refine AL.val rfl (.inl rfl) (HV.mv rfl) ?_
                refine AL.val rfl (.inl rfl) (HV.len Tryd.underlying33 rfl hr232.isSl) ?_
                refine AL.val rfl (.inl rfl) (HV.lti rfl rfl) ?_
                refine AL.val rfl (.inl rfl) (HV.mv rfl) ?_
                by_cases c233 : ((spI 32 z211).length : Int) < 2
                · -- true
                  have c233_ : decide (((spI 32 z211).length : Int) < 2) = true := decide_eq_true c233
                  rw [c233_]
                  refine AL.off rfl rfl (by decide) rfl ?_
                  refine AL.off rfl rfl (by decide) rfl ?_
                  refine AL.off rfl rfl (by decide) rfl ?_
                  refine AL.off rfl rfl (by decide) rfl ?_
                  refine AL.val rfl (.inl rfl) (HV.pickT rfl rfl) ?_
                  refine AL.val rfl (.inl rfl) (HV.mv rfl) ?_
                  refine AL.off rfl rfl (by decide) rfl ?_
                  refine AL.off rfl rfl (by decide) rfl ?_
                  refine AL.off rfl rfl (by decide) rfl ?_
                  refine AL.off rfl rfl (by decide) rfl ?_
                  refine AL.off rfl rfl (by decide) rfl ?_
                  refine AL.val rfl (.inl rfl) (HV.pickT rfl rfl) ?_
                  refine AL.nx ?_
                  refine AW.cond rfl (fun _ => ?_) (fun h => by cases h)
                  refine AW.rs ?_
                  refine AL.val rfl (.inl rfl) (HV.bd rfl (bd27_ )) ?_
                  refine AL.w0 (.inl rfl) (WV.st rfl rfl va27 rfl hb229 (Nat.le_of_ble_eq_true rfl) (one_cons rfl (one_cons (sl_one1 ⟨none, 0, rfl⟩) (one_cons rfl (one_cons rfl (one_cons (sl_one1 ⟨none, 0, rfl⟩) one_nil)))))) ?_
                  rintro _ H235 ⟨hx236, hb237⟩
                  have X238 := Ext.thru X227 hx236 (fun z_ hz_ => by rw [hz_]; exact o6)
                  have q240 := Nat.le_trans X228.bd hx236.bd
                  have q242 := Nat.le_trans X231.bd hx236.bd
                  have hb243 := hb230.but hx236 (fun e => ne186 e.symm)
                  have hb244 : At W H235 b1 ⟨27, [.int .i64 0, (.slice none 0 0), .int .i64 0, .int .i64 0, (.slice none 0 0)], 5⟩ := hb237
                  refine AL.val rfl (.inl rfl) (HV.as rfl) ?_
                  refine AL.nx ?_
                  refine AW.ret ?_
                  refine ret_and (ret_blk (ret_and (ret_and (ret_blk (ret_and ?_)))))
                  refine post_ct rfl rfl rfl va27 hb244 ?_ (.inr rfl)
                  have hq := rd_5 (F := spF t) (t := t) (by omega) (spF_no4 (k := []) (mm_none hmi (by first | exact rlS_no1 (by omega)))); exact ⟨⟨.slice none 0 0, .slice none 0 0, fun _ => 0, by rw [hq.1, hq.2], by rw [hq.2]; exact OwnK.nil _, by rw [hq.2]; exact OwnD.nil _⟩, X238⟩
                · -- false
                  have c233_ : decide (((spI 32 z211).length : Int) < 2) = false := decide_eq_false c233
                  rw [c233_]
                  refine AL.val rfl (.inr ⟨_, _, _, rfl, rfl, rfl⟩) (HV.mv rfl) ?_
                  obtain ⟨p245, z246, cs247, hz248, hK249, hC250, hP251⟩ := RdK.ix (q := 0) hr232 sl33 (by omega) (by omega)
                  obtain ⟨rfl, hB252⟩ := hK249
                  refine AL.val rfl (.inr ⟨_, _, _, rfl, rfl, rfl⟩) (hP251 rfl rfl) ?_
                  refine AL.val rfl (.inr ⟨_, _, _, rfl, rfl, rfl⟩) (HV.ld rfl va9 (cells_first hC250 rfl)) ?_
                  refine AL.val rfl (.inr ⟨_, _, _, rfl, rfl, rfl⟩) (HV.neB (a := z246) (b := [114, 111, 119]) hB252 (show ∀ x ∈ ([114, 111, 119] : List Int), 0 ≤ x ∧ x ≤ 255 by decide) rfl rfl) ?_
                  refine AL.val rfl (.inl rfl) (HV.pickF rfl rfl) ?_
                  refine AL.val rfl (.inl rfl) (HV.mv rfl) ?_
                  by_cases c253 : ¬ (z246 = [114, 111, 119])
                  · -- true
                    have c253_ : decide (¬ (z246 = [114, 111, 119])) = true := decide_eq_true c253
                    rw [c253_]
                    refine AL.off rfl rfl (by decide) rfl ?_
                    refine AL.off rfl rfl (by decide) rfl ?_
                    refine AL.off rfl rfl (by decide) rfl ?_
                    refine AL.off rfl rfl (by decide) rfl ?_
                    refine AL.off rfl rfl (by decide) rfl ?_
                    refine AL.val rfl (.inl rfl) (HV.pickT rfl rfl) ?_
                    refine AL.nx ?_
                    refine AW.cond rfl (fun _ => ?_) (fun h => by cases h)
                    refine AW.rs ?_
                    refine AL.val rfl (.inl rfl) (HV.bd rfl (bd27_ )) ?_
                    refine AL.w0 (.inl rfl) (WV.st rfl rfl va27 rfl hb229 (Nat.le_of_ble_eq_true rfl) (one_cons rfl (one_cons (sl_one1 ⟨none, 0, rfl⟩) (one_cons rfl (one_cons rfl (one_cons (sl_one1 ⟨none, 0, rfl⟩) one_nil)))))) ?_
                    rintro _ H255 ⟨hx256, hb257⟩
                    have X258 := Ext.thru X227 hx256 (fun z_ hz_ => by rw [hz_]; exact o6)
                    have q260 := Nat.le_trans X228.bd hx256.bd
                    have q262 := Nat.le_trans X231.bd hx256.bd
                    have hb263 := hb230.but hx256 (fun e => ne186 e.symm)
                    have hb264 : At W H255 b1 ⟨27, [.int .i64 0, (.slice none 0 0), .int .i64 0, .int .i64 0, (.slice none 0 0)], 5⟩ := hb257
                    refine AL.val rfl (.inl rfl) (HV.as rfl) ?_
                    refine AL.nx ?_
                    refine AW.ret ?_
                    refine ret_and (ret_blk (ret_and (ret_and (ret_blk (ret_and ?_)))))
                    refine post_ct rfl rfl rfl va27 hb264 ?_ (.inr rfl)
                    have hq := rd_5 (F := spF t) (t := t) (by omega) (spF_no4 (k := []) (mm_none hmi (by first | exact rlS_no1 (by omega) | exact rlS_no2 (getq (j := 0) hz248 rfl) (by assumption)))); exact ⟨⟨.slice none 0 0, .slice none 0 0, fun _ => 0, by rw [hq.1, hq.2], by rw [hq.2]; exact OwnK.nil _, by rw [hq.2]; exact OwnD.nil _⟩, X258⟩
                  · -- false
                    have c253_ : decide (¬ (z246 = [114, 111, 119])) = false := decide_eq_false c253
                    rw [c253_]
                    refine AL.val rfl (.inr ⟨_, _, _, rfl, rfl, rfl⟩) (HV.mv rfl) ?_
                    obtain ⟨p265, z266, cs267, hz268, hK269, hC270, hP271⟩ := RdK.ix (q := 1) hr232 sl33 (by omega) (by omega)
                    obtain ⟨rfl, hB272⟩ := hK269
                    refine AL.val rfl (.inr ⟨_, _, _, rfl, rfl, rfl⟩) (hP271 rfl rfl) ?_
                    refine AL.val rfl (.inr ⟨_, _, _, rfl, rfl, rfl⟩) (HV.ld rfl va9 (cells_first hC270 rfl)) ?_
                    refine AL.val rfl (.inr ⟨_, _, _, rfl, rfl, rfl⟩) (HV.lenB Tryd.underlying9 rfl) ?_
                    refine AL.val rfl (.inr ⟨_, _, _, rfl, rfl, rfl⟩) (HV.nei rfl rfl) ?_
                    refine AL.val rfl (.inl rfl) (HV.pickF rfl rfl) ?_
                    refine AL.nx ?_
                    refine AW.ifd rfl (fun c273 => ?_) (fun c273 => ?_)
                    · -- then
                      refine AW.rs ?_
                      refine AL.val rfl (.inl rfl) (HV.bd rfl (bd27_ )) ?_
                      refine AL.w0 (.inl rfl) (WV.st rfl rfl va27 rfl hb229 (Nat.le_of_ble_eq_true rfl) (one_cons rfl (one_cons (sl_one1 ⟨none, 0, rfl⟩) (one_cons rfl (one_cons rfl (one_cons (sl_one1 ⟨none, 0, rfl⟩) one_nil)))))) ?_
                      rintro _ H274 ⟨hx275, hb276⟩
                      have X277 := Ext.thru X227 hx275 (fun z_ hz_ => by rw [hz_]; exact o6)
                      have q279 := Nat.le_trans X228.bd hx275.bd
                      have q281 := Nat.le_trans X231.bd hx275.bd
                      have hb282 := hb230.but hx275 (fun e => ne186 e.symm)
                      have hb283 : At W H274 b1 ⟨27, [.int .i64 0, (.slice none 0 0), .int .i64 0, .int .i64 0, (.slice none 0 0)], 5⟩ := hb276
                      refine AL.val rfl (.inl rfl) (HV.as rfl) ?_
                      refine AL.nx ?_
                      refine AW.ret ?_
                      refine ret_and (ret_blk (ret_and (ret_and (ret_blk (ret_and ?_)))))
                      refine post_ct rfl rfl rfl va27 hb283 ?_ (.inr rfl)
                      have hq := rd_5 (F := spF t) (t := t) (by omega) (spF_no4 (k := []) (mm_none hmi (by first | exact rlS_no1 (by omega) | exact rlS_no2 (getq (j := 0) hz248 rfl) (by assumption) | exact rlS_no3 (getq (j := 1) hz268 rfl) (by omega)))); exact ⟨⟨.slice none 0 0, .slice none 0 0, fun _ => 0, by rw [hq.1, hq.2], by rw [hq.2]; exact OwnK.nil _, by rw [hq.2]; exact OwnD.nil _⟩, X277⟩
                    · -- else
                      refine AW.skip ?_
                      refine nrm_and ?_
                      refine AW.rs ?_
                      refine AL.val rfl (.inl rfl) (HV.mv rfl) ?_
                      obtain ⟨p284, z285, cs286, hz287, hK288, hC289, hP290⟩ := RdK.ix (q := 1) hr232 sl33 (by omega) (by omega)
                      obtain ⟨rfl, hB291⟩ := hK288
                      refine AL.val rfl (.inl rfl) (hP290 rfl rfl) ?_
                      refine AL.val rfl (.inl rfl) (HV.ld rfl va9 (cells_first hC289 rfl)) ?_
                      have hl1 : z285.length = 1 := by rw [Option.some.inj (hz287.symm.trans hz268)]; omega
                      have y292 := hb229.lt
                      have y293 := hb230.lt
                      have o294 := X227.bd
                      have o295 := X228.bd
                      have o296 := X231.bd
                      refine AL.w rfl (.inl rfl) (WV.call fn11 rfl (read_ok hB291 (by omega))) ?_
                      rintro _ H302 ⟨⟨v297, k298, b299, rfl, ho304, hw300, hw301⟩, hx303⟩
                      have X305 := Ext.trans X227 hx303
                      have X306 := Ext.trans X228 hx303
                      have X307 := Ext.trans X231 hx303
                      have hb308 := hb229.ext hx303
                      have hb309 := hb230.ext hx303
                      have X310 := Ext.refl H302
                      refine AL.val rfl (.inl rfl) (HV.mv rfl) ?_
                      refine AL.val rfl (.inl rfl) (HV.ex rfl rfl) ?_
                      refine AL.val rfl (.inl rfl) (HV.ex rfl rfl) ?_
                      refine AL.val rfl (.inl rfl) (HV.as rfl) ?_
                      refine AL.val rfl (.inl rfl) (HV.as rfl) ?_
                      refine AL.nx ?_
                      refine AW.rs ?_
                      refine AL.val rfl (.inl rfl) (HV.mv rfl) ?_
                      have y312 := hb308.lt
                      have y313 := hb309.lt
                      have o314 := X305.bd
                      have o315 := X306.bd
                      have o316 := X307.bd
                      have o317 := X310.bd
                      have a318 := ho304.ltb
                      refine AL.w rfl (.inl rfl) (WV.call fn10 rfl (nums_ok (f := 2) (hr232.ext X307) rfl (by constructor; (omega); (exact fun p hp => by have := hsl226.2 p hp; omega)))) ?_
                      rintro _ H323 ⟨⟨v319, k320, b321, rfl, ho325, hm322⟩, hx324⟩
                      have X326 := Ext.trans X305 hx324
                      have X327 := Ext.trans X306 hx324
                      have X328 := Ext.trans X307 hx324
                      have X329 := Ext.trans X310 hx324
                      have ho330 := ho304.ext hx324
                      have hb331 := hb308.ext hx324
                      have hb332 := hb309.ext hx324
                      have X333 := Ext.refl H323
                      refine AL.val rfl (.inl rfl) (HV.mv rfl) ?_
                      refine AL.val rfl (.inl rfl) (HV.ex rfl rfl) ?_
                      refine AL.val rfl (.inl rfl) (HV.ex rfl rfl) ?_
                      refine AL.val rfl (.inl rfl) (HV.as rfl) ?_
                      refine AL.val rfl (.inl rfl) (HV.as rfl) ?_
                      refine AL.nx ?_
                      refine AW.seq ?_
                      refine AW.rs ?_
                      refine AL.val rfl (.inl rfl) (HV.mv rfl) ?_
                      refine AL.val rfl (.inl rfl) (HV.not rfl) ?_
                      refine AL.val rfl (.inl rfl) (HV.mv rfl) ?_
                      cases c335 : (!b299)
                      · -- false
                        refine AL.val rfl (.inr ⟨_, _, _, rfl, rfl, rfl⟩) (HV.mv rfl) ?_
                        refine AL.val rfl (.inr ⟨_, _, _, rfl, rfl, rfl⟩) (HV.not rfl) ?_
                        refine AL.val rfl (.inl rfl) (HV.pickF rfl rfl) ?_
                        refine AL.val rfl (.inl rfl) (HV.mv rfl) ?_
                        cases c336 : (!b321)
                        · -- false
                          refine AL.val rfl (.inr ⟨_, _, _, rfl, rfl, rfl⟩) (HV.mv rfl) ?_
                          refine AL.val rfl (.inr ⟨_, _, _, rfl, rfl, rfl⟩) (HV.len Tryd.underlying22 rfl ho330.rd.isSl) ?_
                          refine AL.val rfl (.inr ⟨_, _, _, rfl, rfl, rfl⟩) (HV.nei rfl rfl) ?_
                          refine AL.val rfl (.inl rfl) (HV.pickF rfl rfl) ?_
                          refine AL.nx ?_
                          refine AW.ifd rfl (fun c337 => ?_) (fun c337 => ?_)
                          · -- then
                            refine AW.rs ?_
                            refine AL.val rfl (.inl rfl) (HV.bd rfl (bd27_ )) ?_
                            refine AL.w0 (.inl rfl) (WV.st rfl rfl va27 rfl hb331 (Nat.le_of_ble_eq_true rfl) (one_cons rfl (one_cons (sl_one1 ⟨none, 0, rfl⟩) (one_cons rfl (one_cons rfl (one_cons (sl_one1 ⟨none, 0, rfl⟩) one_nil)))))) ?_
                            rintro _ H338 ⟨hx339, hb340⟩
                            have X341 := Ext.thru X326 hx339 (fun z_ hz_ => by rw [hz_]; exact o6)
                            have q343 := Nat.le_trans X327.bd hx339.bd
                            have q345 := Nat.le_trans X328.bd hx339.bd
                            have q347 := Nat.le_trans X329.bd hx339.bd
                            have q349 := Nat.le_trans X333.bd hx339.bd
                            have ho350 := ho330.but hx339 (fun b hb _ e => by have hb' : H223.bd ≤ b := hb; have e' : b = b1 := e; omega) (fun z_ hz_ => by rw [hz_]; exact hb331.w)
                            have ho351 := ho325.but hx339 (fun b hb _ e => by have hb' : H302.bd ≤ b := hb; have e' : b = b1 := e; omega) (fun z_ hz_ => by rw [hz_]; exact hb331.w)
                            have hb352 := hb332.but hx339 (fun e => ne186 e.symm)
                            have hb353 : At W H338 b1 ⟨27, [.int .i64 0, (.slice none 0 0), .int .i64 0, .int .i64 0, (.slice none 0 0)], 5⟩ := hb340
                            refine AL.val rfl (.inl rfl) (HV.as rfl) ?_
                            refine AL.nx ?_
                            refine AW.ret ?_
                            refine ret_and (ret_blk (ret_and (ret_and (ret_blk (ret_and ?_)))))
                            refine post_ct rfl rfl rfl va27 hb353 ?_ (.inr rfl)
                            have hq := rd_5 (F := spF t) (t := t) (by omega) (spF_no4 (k := []) (mm_none hmi (by first | exact rlS_no4 (getq (j := 1) hz287 rfl) (fun q => by have hb_ : b299 = false := (by simpa using (by assumption : (!b299) = true)); rw [(hw300.2 q).1] at hb_; cases hb_) | exact rlS_no4 (getq (j := 1) hz287 rfl) (fun q => by have q2 := (hw300.2 q).2; omega) | exact rlS_no5 (by have hb_ : b321 = false := (by simpa using (by assumption : (!b321) = true)); rw [hm322, hb_]; rfl)))); exact ⟨⟨.slice none 0 0, .slice none 0 0, fun _ => 0, by rw [hq.1, hq.2], by rw [hq.2]; exact OwnK.nil _, by rw [hq.2]; exact OwnD.nil _⟩, X341⟩
                          · -- else
                            refine AW.skip ?_
                            refine nrm_and ?_
                            refine AW.seq ?_
                            refine AW.draw' [0, 1, 0, 4, 12, 28, 63, 127, 255] mixed (by rfl) ?_
                            have hrsl := mm_len hm
                            rw [List.length_take] at hrsl
                            refine Dr.read 0 _ 122 _ rfl rfl rfl rfl rfl (RV.of (by intro _ _ h; cases h) (.inl rfl) (fun _ xd => HV.fa fl27_1 rfl)) ?_
                            refine Dr.read 1 _ 123 _ rfl rfl rfl rfl rfl (RV.of (by intro _ _ h; cases h) (.inl rfl) (fun _ xd => HV.ld rfl va22 (rdc_ext xd (at_cell_add (j := 1) hb332 rfl)))) ?_
                            refine Dr.read 2 _ 124 _ rfl rfl rfl rfl rfl (RV.of (by intro _ _ h; cases h) (.inl rfl) (fun _ xd => HV.mv rfl)) ?_
                            obtain ⟨g354, z355, cs356, hz357, hK358, hC359, hg360, hP361⟩ := OwnK.ix (q := 0) ho330 sl22 (by omega) (by omega)
                            obtain rfl : cs356 = [.int .i64 z355] := hK358
                            refine Dr.read 3 _ 125 _ rfl rfl rfl rfl rfl (RV.of (by intro _ _ h; cases h) (.inl rfl) (fun _ xd => hP361 rfl rfl)) ?_
                            refine Dr.read 4 _ 126 _ rfl rfl rfl rfl rfl (RV.of (by intro _ _ h; cases h) (.inl rfl) (fun _ xd => HV.ld rfl va2 (rdc_ext xd (cells_first hC359 rfl)))) ?_
                            have y362 := hb331.lt
                            have y363 := hb332.lt
                            have o364 := X326.bd
                            have o365 := X327.bd
                            have o366 := X328.bd
                            have o367 := X329.bd
                            have o368 := X333.bd
                            have a369 := ho330.ltb
                            have a370 := ho325.ltb
                            refine Dr.eff 5 _ _ rfl (by intro d h; cases h; exact ⟨rfl, rfl⟩) rfl rfl rfl (EC.of (by intro _ _ h; cases h) (.inl rfl) (WV.bsK (K := kI) (l := ([z355] : List Int)) (css := [[.int .i64 z355]]) sl22 rfl rfl (by first | rfl | (simp [Instr.fill, Value.cells, kI, kB, kU, kU8, kS, Kd.sc]; done) | (simp [Instr.fill, Value.cells, kI, kB, kU, kU8, kS, Kd.sc, rng1, rng2, rng3, rng4, kP])) rfl (segs_cons rfl segs_nil))) (fun v H' h => .inl (h.1)) ?_
                            rintro v371 H372 ⟨hx373, ho374⟩
                            have X375 := Ext.trans X326 hx373
                            have X376 := Ext.trans X327 hx373
                            have X377 := Ext.trans X328 hx373
                            have X378 := Ext.trans X329 hx373
                            have X379 := Ext.trans X333 hx373
                            have ho380 := ho330.ext hx373
                            have ho381 := ho325.ext hx373
                            have hb382 := hb331.ext hx373
                            have hb383 := hb332.ext hx373
                            have X385 := Ext.refl H372
                            have xl395 := X376.bd
                            refine Dr.eff 6 _ _ rfl (by intro d h; cases h; exact ⟨rfl, rfl⟩) rfl rfl rfl (EC.of (by intro _ _ h; cases h) (.inl rfl) (WV.apk sl22 rfl rfl (hvo.ext X376) ho374.rd (by simp; omega) (by simp; omega) (fun b hb _ e => by have h1 : H323.bd ≤ b := hb; have h2 := (hvoL b e); omega))) (fun v H' h => .inr (.inl rfl)) ?_
                            rintro v386 H387 ⟨hx388, ho389, hb390⟩
                            have hC391 := But.trans hBL (But.trans (Ext.but X376 _) (But.mono hx388 (fun b e => (hvo.blk b e).1.1.1)))
                            have hat392 := (hat.ext X376).but hx388 (fun e => (hvo.blk _ e).1.1.2 rfl)
                            have lt393 := ho389.ltb
                            have lt396 := hat.lt
                            have hn394 : ∀ b, some b = v386.ownBlock → (H62.bd ≤ b ∧ b ≠ b176) ∧ (some b = vo.ownBlock ∨ H372.bd ≤ b) := fun b e => (hb390 b e).elim (fun q => ⟨(hvo.blk b q).1.1, .inl q⟩) (fun (q : H372.bd ≤ b) => ⟨⟨by have := hBL.bd; omega, by omega⟩, .inr q⟩)
                            have hvr397 := ((hvr.okk (ok' := fun b => ((H62.bd ≤ b ∧ b ≠ b176) ∧ ¬ S_ b) ∧ b < H207.bd) (fun b hb hlt => ⟨hb, hlt⟩)).ext X376).but hx388 (fun b hb _ e => hb.1.2 (hvo.blk b e).1.2) (fun b e => (hvo.blk b e).2.2)
                            have hxr398 := (ho381.okk (ok' := fun b => H207.bd ≤ b ∧ b < H372.bd) (fun b hb hlt => ⟨Nat.le_trans o315 hb, hlt⟩)).but hx388 (fun b hb _ e => by have h2 := hvoL b e; have h1 := hb.1; omega) (fun b e => (hvo.blk b e).2.2)
                            have hb399 := hb382.but hx388 (fun e => by have h2 := (hvo.blk _ e).1.1.1; omega)
                            have bl400 := hx388.bd
                            have X401 := Ext.refl H387
                            refine Dr.read 7 _ 129 _ rfl rfl rfl rfl rfl (RV.of (by intro _ _ h; cases h) (.inl rfl) (fun _ xd => HV.fa fl27_1 rfl)) ?_
                            refine Dr.eff 8 _ _ rfl (by intro d h; cases h) rfl rfl rfl (EC.of (by intro _ _ h; cases h) (.inl rfl) (WV.st rfl rfl va22 (sl_size ho389.isSl) hat392 (Nat.le_of_ble_eq_true rfl) (sl_one ho389.isSl))) (fun v H' h => .inr (.inl rfl)) ?_
                            rintro _ H402 ⟨hx403, ha404⟩
                            rw [sl_cells ho389.isSl] at ha404
                            have bl407 := hx403.bd
                            have hat405 : At W H402 b176 ⟨27, [.int .i64 hdA_, v386, .int .i64 hdB_, .int .i64 hdC_, vr], 5⟩ := ha404
                            have hC406 := But.trans hC391 (But.mono hx403 (fun b e => by have h : b = b176 := e; omega))
                            have ho408 := (OwnK.narrow (ok' := fun b => some b = v386.ownBlock) kI_flat ho389 (fun b e => e)).but hx403 (fun b hb _ e => (hn394 b hb).1.2 e) (fun z_ hz_ => by rw [hz_]; exact hat392.w)
                            have hvr409 := hvr397.but hx403 (fun b hb _ e => hb.1.1.2 e) (fun z_ hz_ => by rw [hz_]; exact hat392.w)
                            have hxr410 := hxr398.but hx403 (fun b hb _ e => by have h1 := hb.1; have h : b = b176 := e; have := hat.lt; omega) (fun z_ hz_ => by rw [hz_]; exact hat392.w)
                            have hb411 := hb399.but hx403 (fun e => by have h : _ = b176 := e; omega)
                            have X412 := Ext.refl H402
                            refine Dr.fin rfl ?_
                            refine nrm_and ?_
                            refine AW.reg ?_
                            refine AL.val rfl (.inl rfl) (HV.fa fl27_2 rfl) ?_
                            refine AL.val rfl (.inl rfl) (HV.fa fl25_2 rfl) ?_
                            refine AL.val rfl (.inl rfl) (HV.ld rfl va23 (at_cell_add (j := 4) hat405 rfl)) ?_
                            refine AL.val rfl (.inl rfl) (HV.mv rfl) ?_
                            have hc413 : v319.cells = #[v319] := by obtain ⟨A, c, e⟩ := hxr410.isSl; rw [e]; rfl
                            refine AL.w rfl (.inl rfl) (WV.bsO (okx := fun b => H207.bd ≤ b ∧ b < H372.bd) (K := kO 2 kI) (l := [k320]) (css := [[v319]]) sl23 rfl rfl (by simp [Instr.fill, hc413, kO, rng1]) rfl (segs_cons ⟨_, rfl, hxr410⟩ segs_nil)) ?_
                            rintro v414 H415 ⟨hx416, ho417⟩
                            have bl418 := hx416.bd
                            have X419 := Ext.trans X412 hx416
                            have hb420 := hb411.ext hx416
                            have hb421 := hat405.ext hx416
                            have X422 := Ext.refl H415
                            have bl435 := hBL.bd
                            have bl436 := X419.bd
                            have lt437 := ho408.ltb
                            refine AL.w rfl (.inl rfl) (WV.apE (okx := fun b => (H207.bd ≤ b ∧ b < H372.bd) ∨ H402.bd ≤ b) sl23 rfl rfl (hvr409.ext X419) ho417.rd (fun b h1 h2 => by have h3 := h1.2; rcases h2 with h2 | h2 <;> omega) (by simp; omega) (by simp; omega)) ?_
                            rintro v423 H424 ⟨hx425, hD426, hb427⟩
                            have hC428 := But.trans hC406 (But.trans (Ext.but X419 _) (But.mono hx425 (fun b e => (hvr409.blk b e).1.1.1.1)))
                            have hat429 := (hat405.ext X419).but hx425 (fun e => (hvr409.blk _ e).1.1.1.2 rfl)
                            have hn438 : ∀ b, some b = v386.ownBlock → some b = vr.ownBlock → False := fun b e1 e2 => by have h1 := (hvr409.blk b e2).1; rcases (hn394 b e1).2 with h2 | h2; (exact h1.1.2 (hvo.blk b h2).1.2); (have h3 := h1.2; omega)
                            have ho430 := (ho408.ext X419).but hx425 (fun b hb _ e => hn438 b hb e) (fun b e => (hvr409.blk b e).2.2)
                            have hb434 := hb420.but hx425 (fun e => by have h2 := (hvr409.blk _ e).1.1.1.1; omega)
                            have lt439 := hat.lt
                            have nB432 : ∀ b, (((((H62.bd ≤ b ∧ b ≠ b176) ∧ ¬ S_ b) ∧ b < H207.bd) ∧ b < H415.bd) ∨ (((H207.bd ≤ b ∧ b < H372.bd) ∨ H402.bd ≤ b) ∧ b < H415.bd) ∨ H415.bd ≤ b) → H62.bd ≤ b ∧ b ≠ b176 := fun b h => by rcases h with h | h | h; (exact h.1.1.1); (rcases h.1 with h1 | h1 <;> exact ⟨by omega, by omega⟩); (exact ⟨by omega, by omega⟩)
                            have nD431 : ∀ b, (((((H62.bd ≤ b ∧ b ≠ b176) ∧ ¬ S_ b) ∧ b < H207.bd) ∧ b < H415.bd) ∨ (((H207.bd ≤ b ∧ b < H372.bd) ∨ H402.bd ≤ b) ∧ b < H415.bd) ∨ H415.bd ≤ b) → b = b176 → False := fun b h e => (nB432 b h).2 e
                            have nS433 : ∀ b, (((((H62.bd ≤ b ∧ b ≠ b176) ∧ ¬ S_ b) ∧ b < H207.bd) ∧ b < H415.bd) ∨ (((H207.bd ≤ b ∧ b < H372.bd) ∨ H402.bd ≤ b) ∧ b < H415.bd) ∨ H415.bd ≤ b) → ¬ some b = v386.ownBlock := fun b h e => by have h5 := lt437 b e; rcases (hn394 b e).2 with h2 | h2; (have h6 := hvoL b h2; rcases h with h | h | h; (exact h.1.1.2 (hvo.blk b h2).1.2); (rcases h.1 with h1 | h1 <;> omega); (omega)); (rcases h with h | h | h; (have h7 := h.1.2; omega); (rcases h.1 with h1 | h1 <;> omega); (omega))
                            have X440 := Ext.refl H424
                            refine AL.val rfl (.inl rfl) (HV.fa fl27_2 rfl) ?_
                            refine AL.val rfl (.inl rfl) (HV.fa fl25_2 rfl) ?_
                            refine AL.w0 (.inl rfl) (WV.st rfl rfl va23 (sl_size hD426.own.isSl) hat429 (Nat.le_of_ble_eq_true rfl) (sl_one hD426.own.isSl)) ?_
                            rintro _ H441 ⟨hx442, ha443⟩
                            rw [sl_cells hD426.own.isSl] at ha443
                            have bl446 := hx442.bd
                            have hat444 : At W H441 b176 ⟨27, [.int .i64 hdA_, v386, .int .i64 hdB_, .int .i64 hdC_, v423], 5⟩ := ha443
                            have hC445 := But.trans hC428 (But.mono hx442 (fun b e => by have h : b = b176 := e; omega))
                            have ho447 := (OwnK.narrow (ok' := fun b => some b = v386.ownBlock) kI_flat ho430 (fun b e => e)).but hx442 (fun b hb _ e => (hn394 b hb).1.2 e) (fun z_ hz_ => by rw [hz_]; exact hat429.w)
                            have hvr448 := hD426.but hx442 (fun b hb _ e => nD431 b hb e) (fun z_ hz_ => by rw [hz_]; exact hat429.w)
                            have hb450 := hb434.but hx442 (fun e => by have h : _ = b176 := e; omega)
                            have X451 := Ext.refl H441
                            have hG452 : Gr W H441 27 b176 H62.bd hdA_ hdB_ hdC_ ((rs ++ [(z355, k320)]).map Prod.fst) ((rs ++ [(z355, k320)]).map Prod.snd) v386 v423 := ⟨(fun b => some b = v386.ownBlock), hat444, by rw [List.map_append]; exact ho447.okk (fun b hb _ => ⟨(hn394 b hb).1, hb⟩), by rw [List.map_append]; exact hvr448.okk (fun b hb _ => ⟨(nB432 b hb), nS433 b hb⟩)⟩
                            refine AL.nil ?_
                            refine nrm_blk (nrm_and ?_)
                            refine AW.reg ?_
                            refine AL.val rfl (.inl rfl) (HV.mv rfl) ?_
                            refine AL.val rfl (.inl rfl) (HV.add rfl rfl (by omega)) ?_
                            refine AL.val rfl (.inl rfl) (HV.as rfl) ?_
                            refine AL.nil ?_
                            refine nrm_and ?_
                            exact ⟨(i + 1, (rs ++ [(z355, k320)]), v386, v423, x + 1), ⟨by omega, mm_take hm hmi (rlS_yes (getq (j := 0) hz248 rfl) (getq (j := 1) hz287 rfl) (Decidable.not_not.1 (by assumption)) (by omega) (hw300.1 ⟨by simpa using (by assumption : (!b299) = false), by omega⟩) (hw301 (by omega)) (getq (j := 0) hz357 rfl) (by have hb_ : b321 = true := (by simpa using (by assumption : (!b321) = false)); rw [hm322, hb_, if_pos rfl])), by omega, hC445, hG452, trivial⟩, by first | omega | (dsimp only; omega), ⟨rfl, rfl, rfl, rfl, trivial⟩⟩
                        · -- true
                          refine AL.off rfl rfl (by decide) rfl ?_
                          refine AL.off rfl rfl (by decide) rfl ?_
                          refine AL.off rfl rfl (by decide) rfl ?_
                          refine AL.val rfl (.inl rfl) (HV.pickT rfl rfl) ?_
                          refine AL.nx ?_
                          refine AW.cond rfl (fun _ => ?_) (fun h => by cases h)
                          refine AW.rs ?_
                          refine AL.val rfl (.inl rfl) (HV.bd rfl (bd27_ )) ?_
                          refine AL.w0 (.inl rfl) (WV.st rfl rfl va27 rfl hb331 (Nat.le_of_ble_eq_true rfl) (one_cons rfl (one_cons (sl_one1 ⟨none, 0, rfl⟩) (one_cons rfl (one_cons rfl (one_cons (sl_one1 ⟨none, 0, rfl⟩) one_nil)))))) ?_
                          rintro _ H454 ⟨hx455, hb456⟩
                          have X457 := Ext.thru X326 hx455 (fun z_ hz_ => by rw [hz_]; exact o6)
                          have q459 := Nat.le_trans X327.bd hx455.bd
                          have q461 := Nat.le_trans X328.bd hx455.bd
                          have q463 := Nat.le_trans X329.bd hx455.bd
                          have q465 := Nat.le_trans X333.bd hx455.bd
                          have ho466 := ho330.but hx455 (fun b hb _ e => by have hb' : H223.bd ≤ b := hb; have e' : b = b1 := e; omega) (fun z_ hz_ => by rw [hz_]; exact hb331.w)
                          have ho467 := ho325.but hx455 (fun b hb _ e => by have hb' : H302.bd ≤ b := hb; have e' : b = b1 := e; omega) (fun z_ hz_ => by rw [hz_]; exact hb331.w)
                          have hb468 := hb332.but hx455 (fun e => ne186 e.symm)
                          have hb469 : At W H454 b1 ⟨27, [.int .i64 0, (.slice none 0 0), .int .i64 0, .int .i64 0, (.slice none 0 0)], 5⟩ := hb456
                          refine AL.val rfl (.inl rfl) (HV.as rfl) ?_
                          refine AL.nx ?_
                          refine AW.ret ?_
                          refine ret_and (ret_blk (ret_and (ret_and (ret_blk (ret_and ?_)))))
                          refine post_ct rfl rfl rfl va27 hb469 ?_ (.inr rfl)
                          have hq := rd_5 (F := spF t) (t := t) (by omega) (spF_no4 (k := []) (mm_none hmi (by first | exact rlS_no4 (getq (j := 1) hz287 rfl) (fun q => by have hb_ : b299 = false := (by simpa using (by assumption : (!b299) = true)); rw [(hw300.2 q).1] at hb_; cases hb_) | exact rlS_no4 (getq (j := 1) hz287 rfl) (fun q => by have q2 := (hw300.2 q).2; omega) | exact rlS_no5 (by have hb_ : b321 = false := (by simpa using (by assumption : (!b321) = true)); rw [hm322, hb_]; rfl)))); exact ⟨⟨.slice none 0 0, .slice none 0 0, fun _ => 0, by rw [hq.1, hq.2], by rw [hq.2]; exact OwnK.nil _, by rw [hq.2]; exact OwnD.nil _⟩, X457⟩
                      · -- true
                        refine AL.off rfl rfl (by decide) rfl ?_
                        refine AL.off rfl rfl (by decide) rfl ?_
                        refine AL.val rfl (.inl rfl) (HV.pickT rfl rfl) ?_
                        refine AL.val rfl (.inl rfl) (HV.mv rfl) ?_
                        refine AL.off rfl rfl (by decide) rfl ?_
                        refine AL.off rfl rfl (by decide) rfl ?_
                        refine AL.off rfl rfl (by decide) rfl ?_
                        refine AL.val rfl (.inl rfl) (HV.pickT rfl rfl) ?_
                        refine AL.nx ?_
                        refine AW.cond rfl (fun _ => ?_) (fun h => by cases h)
                        refine AW.rs ?_
                        refine AL.val rfl (.inl rfl) (HV.bd rfl (bd27_ )) ?_
                        refine AL.w0 (.inl rfl) (WV.st rfl rfl va27 rfl hb331 (Nat.le_of_ble_eq_true rfl) (one_cons rfl (one_cons (sl_one1 ⟨none, 0, rfl⟩) (one_cons rfl (one_cons rfl (one_cons (sl_one1 ⟨none, 0, rfl⟩) one_nil)))))) ?_
                        rintro _ H471 ⟨hx472, hb473⟩
                        have X474 := Ext.thru X326 hx472 (fun z_ hz_ => by rw [hz_]; exact o6)
                        have q476 := Nat.le_trans X327.bd hx472.bd
                        have q478 := Nat.le_trans X328.bd hx472.bd
                        have q480 := Nat.le_trans X329.bd hx472.bd
                        have q482 := Nat.le_trans X333.bd hx472.bd
                        have ho483 := ho330.but hx472 (fun b hb _ e => by have hb' : H223.bd ≤ b := hb; have e' : b = b1 := e; omega) (fun z_ hz_ => by rw [hz_]; exact hb331.w)
                        have ho484 := ho325.but hx472 (fun b hb _ e => by have hb' : H302.bd ≤ b := hb; have e' : b = b1 := e; omega) (fun z_ hz_ => by rw [hz_]; exact hb331.w)
                        have hb485 := hb332.but hx472 (fun e => ne186 e.symm)
                        have hb486 : At W H471 b1 ⟨27, [.int .i64 0, (.slice none 0 0), .int .i64 0, .int .i64 0, (.slice none 0 0)], 5⟩ := hb473
                        refine AL.val rfl (.inl rfl) (HV.as rfl) ?_
                        refine AL.nx ?_
                        refine AW.ret ?_
                        refine ret_and (ret_blk (ret_and (ret_and (ret_blk (ret_and ?_)))))
                        refine post_ct rfl rfl rfl va27 hb486 ?_ (.inr rfl)
                        have hq := rd_5 (F := spF t) (t := t) (by omega) (spF_no4 (k := []) (mm_none hmi (by first | exact rlS_no4 (getq (j := 1) hz287 rfl) (fun q => by have hb_ : b299 = false := (by simpa using (by assumption : (!b299) = true)); rw [(hw300.2 q).1] at hb_; cases hb_) | exact rlS_no4 (getq (j := 1) hz287 rfl) (fun q => by have q2 := (hw300.2 q).2; omega) | exact rlS_no5 (by have hb_ : b321 = false := (by simpa using (by assumption : (!b321) = true)); rw [hm322, hb_]; rfl)))); exact ⟨⟨.slice none 0 0, .slice none 0 0, fun _ => 0, by rw [hq.1, hq.2], by rw [hq.2]; exact OwnK.nil _, by rw [hq.2]; exact OwnD.nil _⟩, X474⟩
              · -- else
                refine AW.exit ?_
                refine ex_and (ex_and (ex_blk ?_))
                refine nrm_and ?_
                refine AW.seq ?_
                refine AW.rs ?_
                have eA : k59.getD 0 0 = hdA_ := (gd hz155 (by decide)).trans ehdA_.symm
                have eB : k59.getD 1 0 = hdB_ := (gd hz163 (by decide)).trans ehdB_.symm
                have eC : k59.getD 2 0 = hdC_ := (gd hz171 (by decide)).trans ehdC_.symm
                have hmE : mm rlS (mids (spI 10 t)) = some rs := by rw [← hm, List.take_of_length_le (by omega)]
                refine AL.w rfl (.inl rfl) (WV.call fn12 rfl (l04Ok_ok hdA_ hdB_ hdC_ hvo.rd (rd_ofO hvr.rd) (at_cells hat rfl))) ?_
                rintro _ H487 ⟨rfl, hx488⟩
                have X489 := Ext.trans hXL hx488
                have X490 := Ext.trans X208 hx488
                have hb491 := hb2L.ext hx488
                have hb492 := hat.ext hx488
                refine AL.val rfl (.inl rfl) (HV.not rfl) ?_
                refine AL.nx ?_
                refine AW.ifn rfl (fun c493 => ?_) (fun c493 => ?_)
                · -- then
                  refine AW.rs ?_
                  refine AL.val rfl (.inl rfl) (HV.bd rfl (bd27_ )) ?_
                  refine AL.w0 (.inl rfl) (WV.st rfl rfl va27 rfl hb491 (Nat.le_of_ble_eq_true rfl) (one_cons rfl (one_cons (sl_one1 ⟨none, 0, rfl⟩) (one_cons rfl (one_cons rfl (one_cons (sl_one1 ⟨none, 0, rfl⟩) one_nil)))))) ?_
                  rintro _ H494 ⟨hx495, hb496⟩
                  have X497 := Ext.thru X489 hx495 (fun z_ hz_ => by rw [hz_]; exact o6)
                  have q499 := Nat.le_trans X490.bd hx495.bd
                  have hb500 := hb492.but hx495 (fun e => ne186 e.symm)
                  have hb501 : At W H494 b1 ⟨27, [.int .i64 0, (.slice none 0 0), .int .i64 0, .int .i64 0, (.slice none 0 0)], 5⟩ := hb496
                  refine AL.val rfl (.inl rfl) (HV.as rfl) ?_
                  refine AL.nx ?_
                  refine AW.ret ?_
                  refine ret_and ?_
                  refine post_ct rfl rfl rfl va27 hb501 ?_ (.inr rfl)
                  have hq := rd_5 (F := spF t) (t := t) (by omega) ((spF_end hh hk3 hC3 hmE).trans (by rw [eA, eB, eC]; exact if_neg (by first | assumption | simp_all))); exact ⟨⟨.slice none 0 0, .slice none 0 0, fun _ => 0, by rw [hq.1, hq.2], by rw [hq.2]; exact OwnK.nil _, by rw [hq.2]; exact OwnD.nil _⟩, X497⟩
                · -- else
                  refine AW.skip ?_
                  refine nrm_and ?_
                  refine AW.rs ?_
                  have X502 := Ext.refl H487
                  classical
                  have hvoF := hvo.ext X490
                  have hvrF := hvr.ext X490
                  refine AL.val rfl (.inl rfl) (HV.lda (cs := [.int .i64 hdA_, vo, .int .i64 hdB_, .int .i64 hdC_, vr]) rfl va27 (at_cells hb492 rfl)) ?_
                  refine AL.w0 (.inl rfl) (WV.st rfl rfl va27 rfl hb491 (Nat.le_of_ble_eq_true rfl) (one_cons rfl (one_cons (sl_one1 (hvo.rd.ext X490).isSl) (one_cons rfl (one_cons rfl (one_cons (sl_one1 ((rd_ofO hvr.rd).ext X490).isSl) one_nil)))))) ?_
                  rintro _ H503 ⟨hx504, hb505⟩
                  have X506 := Ext.thru X489 hx504 (fun z_ hz_ => by rw [hz_]; exact o6)
                  have q508 := Nat.le_trans X490.bd hx504.bd
                  have q510 := Nat.le_trans X502.bd hx504.bd
                  have hb511 := hb492.but hx504 (fun e => ne186 e.symm)
                  have hb512 : At W H503 b1 ⟨27, [.int .i64 hdA_, vo, .int .i64 hdB_, .int .i64 hdC_, vr], 5⟩ := hb505
                  refine AL.val rfl (.inl rfl) (HV.as rfl) ?_
                  refine AL.nx ?_
                  refine AW.ret ?_
                  refine post_ct rfl rfl rfl va27 hb512 ?_ (.inr rfl)
                  have hq := rd_0 (F := spF t) (t := t) (by omega) ((spF_end hh hk3 hC3 hmE).trans (by rw [eA, eB, eC]; exact if_pos (by first | assumption | simp_all))); exact ⟨⟨vo, vr, fun b => if S_ b then 0 else 1, by rw [hq.1, hq.2], by rw [hq.2]; exact (hvoF.but hx504 (fun b hb _ e => by have h : b = b1 := e; have := hb.1.1; omega) (fun z_ hz_ => by rw [hz_]; exact hb2w)).okk (fun b hb _ => ⟨Nat.le_trans hHB hb.1.1, if_pos hb.2⟩), by rw [hq.2]; exact (hvrF.but hx504 (fun b hb _ e => by have h : b = b1 := e; have := hb.1.1; omega) (fun z_ hz_ => by rw [hz_]; exact hb2w)).okk (fun b hb _ => ⟨Nat.le_trans hHB hb.1.1, if_neg hb.2⟩)⟩, X506⟩
    · -- true
      refine AL.off rfl rfl (by decide) rfl ?_
      refine AL.off rfl rfl (by decide) rfl ?_
      refine AL.off rfl rfl (by decide) rfl ?_
      refine AL.off rfl rfl (by decide) rfl ?_
      refine AL.val rfl (.inl rfl) (HV.pickT rfl rfl) ?_
      refine AL.val rfl (.inl rfl) (HV.mv rfl) ?_
      refine AL.off rfl rfl (by decide) rfl ?_
      refine AL.off rfl rfl (by decide) rfl ?_
      refine AL.off rfl rfl (by decide) rfl ?_
      refine AL.val rfl (.inl rfl) (HV.pickT rfl rfl) ?_
      refine AL.val rfl (.inl rfl) (HV.mv rfl) ?_
      refine AL.off rfl rfl (by decide) rfl ?_
      refine AL.off rfl rfl (by decide) rfl ?_
      refine AL.off rfl rfl (by decide) rfl ?_
      refine AL.val rfl (.inl rfl) (HV.pickT rfl rfl) ?_
      refine AL.val rfl (.inl rfl) (HV.mv rfl) ?_
      refine AL.off rfl rfl (by decide) rfl ?_
      refine AL.off rfl rfl (by decide) rfl ?_
      refine AL.off rfl rfl (by decide) rfl ?_
      refine AL.off rfl rfl (by decide) rfl ?_
      refine AL.off rfl rfl (by decide) rfl ?_
      refine AL.off rfl rfl (by decide) rfl ?_
      refine AL.off rfl rfl (by decide) rfl ?_
      refine AL.val rfl (.inl rfl) (HV.pickT rfl rfl) ?_
      refine AL.nx ?_
      refine AW.cond rfl (fun _ => ?_) (fun h => by cases h)
      refine AW.rs ?_
      refine AL.val rfl (.inl rfl) (HV.bd rfl (bd27_ )) ?_
      refine AL.w0 (.inl rfl) (WV.st rfl rfl va27 rfl hb69 (Nat.le_of_ble_eq_true rfl) (one_cons rfl (one_cons (sl_one1 ⟨none, 0, rfl⟩) (one_cons rfl (one_cons rfl (one_cons (sl_one1 ⟨none, 0, rfl⟩) one_nil)))))) ?_
      rintro _ H514 ⟨hx515, hb516⟩
      have X517 := Ext.thru X65 hx515 (fun z_ hz_ => by rw [hz_]; exact o6)
      have q519 := Nat.le_trans X66.bd hx515.bd
      have q521 := Nat.le_trans X67.bd hx515.bd
      have q523 := Nat.le_trans X68.bd hx515.bd
      have q525 := Nat.le_trans X70.bd hx515.bd
      have ho526 := ho64.but hx515 (fun b hb _ e => by have hb' : H43.bd ≤ b := hb; have e' : b = b1 := e; omega) (fun z_ hz_ => by rw [hz_]; exact hb69.w)
      have hb527 : At W H514 b1 ⟨27, [.int .i64 0, (.slice none 0 0), .int .i64 0, .int .i64 0, (.slice none 0 0)], 5⟩ := hb516
      refine AL.val rfl (.inl rfl) (HV.as rfl) ?_
      refine AL.nx ?_
      refine AW.ret ?_
      refine ret_and ?_
      refine post_ct rfl rfl rfl va27 hb527 ?_ (.inr rfl)
      have hq := rd_5 (F := spF t) (t := t) (by omega) ((by first | exact spF_no1 (by rw [hh]; have hb_ : b60 = false := (by simpa using (by assumption : (!b60) = true)); rw [hb_]; rfl) | (have hb_ : b60 = true := (by simpa using (by assumption : (!b60) = false)); rw [hb_, if_pos rfl] at hh; exact spF_no2 hh (by omega)) | (have hb_ : b60 = true := (by simpa using (by assumption : (!b60) = false)); rw [hb_, if_pos rfl] at hh; exact spF_no3 hh (fun q => by have q2 := q.2.1; omega)))); exact ⟨⟨.slice none 0 0, .slice none 0 0, fun _ => 0, by rw [hq.1, hq.2], by rw [hq.2]; exact OwnK.nil _, by rw [hq.2]; exact OwnD.nil _⟩, X517⟩
end Go.Proofs.YteajnanbfkcdcaaDoor.VC
