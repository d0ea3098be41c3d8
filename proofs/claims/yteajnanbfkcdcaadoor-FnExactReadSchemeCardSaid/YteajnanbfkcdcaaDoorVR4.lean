/- Walks. -/
import Derived.Test.YteajnanbfkcdcaaDoorVRG
set_option linter.unusedVariables false
set_option linter.unusedSimpArgs false
namespace Go.Proofs.YteajnanbfkcdcaaDoor.VC
open Go Go.RowKit
variable {P : Program} {W : World} {N : Nat} {E : List (Nat × Value)} {H H' : Hp}
theorem post_ct {fn : Func} {R : Value → Hp → Prop} {t ty u : Nat} {cs : List Value} {b T n : Nat} {z : Value} (hr : fn.results = #[.cell t ty, .tmp u]) (hp : geti E t = some (.pointer (some ⟨b, 0, none⟩))) (hz : geti E u = some z) (ht : VarT P ty true cs.length) (hb : At W H b ⟨T, cs, n⟩) (h : R (.tuple #[.agg cs.toArray, z]) H) {e : Exit} (he : e = .normal ∨ e = .ret) : post W P fn R e E H :=
  ⟨he, _, fun a w ha hw => by
    have hp' : a.tmps.getD t undef = .pointer (some ⟨b, 0, none⟩) := ha.ev (x := .tmp t) hp
    have hz' : a.tmps.getD u undef = z := ha.ev (x := .tmp u) hz
    have hq := run_loadVar_agg (P := P) (w := w) (p := ⟨b, 0, none⟩) ht (fun j u hu => hw.cell (by have := hb.rd hu; rw [add_at, Nat.zero_add]; exact this))
    have hp'' : a.tmps[t]?.getD undef = .pointer (some ⟨b, 0, none⟩) := by simpa using hp'
    have hz'' : a.tmps[u]?.getD undef = z := by simpa using hz'
    simp [results, hr, hp'', hz'', asAddr, hq], h⟩
/-! ### What comes out -/
noncomputable def rdO (F : Option Sch) (t : List Int) : Option Sch := if t.length > 4000 then none else F
noncomputable def rdS (F : Option Sch) (t : List Int) : Sch := (rdO F t).getD ⟨0, [], 0, 0, []⟩
noncomputable def rdC (F : Option Sch) (t : List Int) : Int := if t.length > 4000 then 2 else match F with
  | some _ => 0
  | none => 5
theorem rd_2 {F : Option Sch} {t : List Int} (h : t.length > 4000) : rdC F t = 2 ∧ rdS F t = ⟨0, [], 0, 0, []⟩ := by
  unfold rdC rdS rdO; rw [if_pos h, if_pos h]; exact ⟨rfl, rfl⟩
theorem rd_5 {F : Option Sch} {t : List Int} (h : ¬ t.length > 4000) (hF : F = none) : rdC F t = 5 ∧ rdS F t = ⟨0, [], 0, 0, []⟩ := by
  subst hF; unfold rdC rdS rdO; rw [if_neg h, if_neg h]; exact ⟨rfl, rfl⟩
theorem rd_0 {F : Option Sch} {t : List Int} {s : Sch} (h : ¬ t.length > 4000) (hF : F = some s) : rdC F t = 0 ∧ rdS F t = s := by
  subst hF; unfold rdC rdS rdO; rw [if_neg h, if_neg h]; exact ⟨rfl, rfl⟩
theorem mids_sl {ls : List (List Int)} (h : 0 < ls.length) : (ls.take (max (1 : Int) ((ls.length : Int) - 1)).toNat).drop (1 : Int).toNat = mids ls := by
  unfold mids
  cases ls with
  | nil => simp at h
  | cons a r =>
    show ((a :: r).take _).drop 1 = r.dropLast
    rw [List.dropLast_eq_take]
    have e : (max (1 : Int) (((a :: r).length : Int) - 1)).toNat = (r.length - 1) + 1 := by
      simp only [List.length_cons]; omega
    rw [e]; rfl
theorem five_at {z : List Int} (h : 5 ≤ z.length) : (z.take 5).drop 4 = [z.getD 4 0] := by
  match z, h with
  | a :: b :: c :: d :: e :: r, _ => rfl
theorem rlI_no1 {z : List Int} (h : z.length < 5) : rlI z = none := by unfold rlI; rw [if_pos (.inl h)]
theorem rlI_no2 {z : List Int} (h : ¬ z.take 4 = [114, 111, 119, 32]) : rlI z = none := by unfold rlI; rw [if_pos (.inr h)]
theorem rlI_no3 {z : List Int} (h : rwI [z.getD 4 0] (z.drop 4) = none) : rlI z = none := by
  unfold rlI
  rw [h]
  split <;> rfl
theorem rlI_yes {z k : List Int} (h1 : ¬ z.length < 5) (h2 : z.take 4 = [114, 111, 119, 32]) (h : rwI [z.getD 4 0] (z.drop 4) = some k) : rlI z = some (z.getD 4 0 - 65, k) := by
  unfold rlI
  rw [if_neg (fun q => q.elim h1 (fun e => e h2)), h]
theorem imF_no1 {t : List Int} (h : rwI schW ((spI 10 t).headD []) = none) : imF t = none := by unfold imF; rw [h]
theorem imF_no2 {t k : List Int} (h : rwI schW ((spI 10 t).headD []) = some k) (hk : k.length ≠ 3) : imF t = none := by
  unfold imF
  rw [h]
  split
  · rename_i e; cases e; exact absurd rfl hk
  · rfl
theorem len3 {k : List Int} (h : k.length = 3) : k = [k.getD 0 0, k.getD 1 0, k.getD 2 0] := by
  match k, h with
  | [a, b, c], _ => rfl
theorem imF_no3 {t k : List Int} (h : rwI schW ((spI 10 t).headD []) = some k) (hk : k.length = 3) (hm : mm rlI (mids (spI 10 t)) = none) : imF t = none := by
  rw [len3 hk] at h
  unfold imF
  rw [h]
  simp only [hm]
theorem imF_no4 {t k : List Int} {rs : List (Int × List Int)} (h : rwI schW ((spI 10 t).headD []) = some k) (hk : k.length = 3) (hm : mm rlI (mids (spI 10 t)) = some rs) (hs : ¬ schT (k.getD 0 0) (rs.map Prod.fst) (k.getD 1 0) (k.getD 2 0) (rs.map Prod.snd) = bytesOf t) : imF t = none := by
  rw [len3 hk] at h
  unfold imF
  rw [h]
  simp only [hm]
  exact if_neg hs
theorem imF_yes {t k : List Int} {rs : List (Int × List Int)} (h : rwI schW ((spI 10 t).headD []) = some k) (hk : k.length = 3) (hm : mm rlI (mids (spI 10 t)) = some rs) (hs : schT (k.getD 0 0) (rs.map Prod.fst) (k.getD 1 0) (k.getD 2 0) (rs.map Prod.snd) = bytesOf t) : imF t = some ⟨k.getD 0 0, rs.map Prod.fst, k.getD 1 0, k.getD 2 0, rs.map Prod.snd⟩ := by
  rw [len3 hk] at h
  unfold imF
  rw [h]
  simp only [hm]
  exact if_pos hs
theorem spF_no1 {t : List Int} (h : mm numF (spI 32 ((spI 10 t).headD [])).tail = none) : spF t = none := by unfold spF; rw [h]
theorem spF_no2 {t k : List Int} (h : mm numF (spI 32 ((spI 10 t).headD [])).tail = some k) (hk : k.length ≠ 3) : spF t = none := by
  unfold spF
  rw [h]
  split
  · rename_i e; cases e; exact absurd rfl hk
  · rfl
theorem spF_no3 {t k : List Int} (h : mm numF (spI 32 ((spI 10 t).headD [])).tail = some k) (hc : ¬ ((spI 32 ((spI 10 t).headD [])).headD [] = schW ∧ 2 ≤ (spI 10 t).length ∧ (spI 10 t).getLastD [] = [])) : spF t = none := by
  unfold spF
  rw [h]
  split
  · exact if_neg hc
  · rfl
theorem spF_no4 {t k : List Int} (hm : mm rlS (mids (spI 10 t)) = none) : spF t = none := by
  unfold spF
  split
  · split
    · rw [hm]
    · rfl
  · rfl
theorem spF_end {t k : List Int} {rs : List (Int × List Int)} (h : mm numF (spI 32 ((spI 10 t).headD [])).tail = some k) (hk : k.length = 3) (hc : (spI 32 ((spI 10 t).headD [])).headD [] = schW ∧ 2 ≤ (spI 10 t).length ∧ (spI 10 t).getLastD [] = []) (hm : mm rlS (mids (spI 10 t)) = some rs) :
    spF t = if okSc (k.getD 0 0) (rs.map Prod.fst) (k.getD 1 0) (k.getD 2 0) (rs.map Prod.snd) then some ⟨k.getD 0 0, rs.map Prod.fst, k.getD 1 0, k.getD 2 0, rs.map Prod.snd⟩ else none := by
  rw [len3 hk] at h
  unfold spF
  rw [h]
  simp only
  rw [if_pos hc, hm]
theorem hd_at {l : List (List Int)} {z : List Int} (h : l[0]? = some z) : l.headD [] = z := by
  cases l with
  | nil => simp at h
  | cons a r => simpa using h
variable {W : World} {H : Hp}

theorem bd27_ : Tryd.prog.built 27 [] = some #[.int .i64 0, .slice none 0 0, .int .i64 0, .int .i64 0, .slice none 0 0] := by kernel_rfl
theorem bd27_0_2 (x a b : Int) : Tryd.prog.built 27 [(0, .int .i64 x), (2, .agg #[.int .i64 a, .int .i64 b, .slice none 0 0])] = some #[.int .i64 x, .slice none 0 0, .int .i64 a, .int .i64 b, .slice none 0 0] := by kernel_rfl
theorem HV.neQ {P : Program} {W : World} {N : Nat} {E : List (Nat × Value)} {H : Hp} {d : Nat} {ty : TypeId} {pos : String} {af : Array Edge} {gd : Option (Nat × Bool)} {t t' : TypeId} {x y : Operand} {p q : ByteArray} (hx : evl E x = some (.string p)) (hy : evl E y = some (.string q)) : HV P W N E H ⟨some d, .binOp .neq t x y t', ty, pos, af, gd⟩ (.bool (decide (¬ p = q))) := by
  have h := HV.nes (P := P) (W := W) (N := N) (H := H) (d := d) (t := t) (t' := t') (ty := ty) (pos := pos) (af := af) (gd := gd) hx hy
  have e : (p.toList == q.toList) = decide (p = q) := by
    rw [Bool.eq_iff_iff, beq_iff_eq, decide_eq_true_eq, ByteArray.toList_eq, ByteArray.toList_eq]
    exact ⟨fun h => ByteArray.ext (Array.ext' h), fun h => by rw [h]⟩
  rwa [e, ← decide_not] at h

set_option maxRecDepth 100000 in
set_option maxHeartbeats 4000000 in
theorem implRd_ok {t : List Int} (hE : Env W) (hb : isB t) : ACalls Tryd.prog W 5 #[.string (bytesOf t)] H (fun r H' => (∃ (u v : Value) (la : Nat → Nat), r = .tuple #[.agg #[.int .i64 (rdS (imF t) t).n, u, .int .i64 (rdS (imF t) t).p, .int .i64 (rdS (imF t) t).k, v], .int .i64 (rdC (imF t) t)] ∧ OwnK kI 2 W H' (fun b => H.bd ≤ b ∧ la b = 0) u (rdS (imF t) t).o ∧ OwnD (kO 2 kI) 22 W H' (fun b => H.bd ≤ b ∧ la b = 1) v (rdS (imF t) t).l) ∧ Ext H H') := by
  refine ACalls.of (args := [.string (bytesOf t)]) Tryd.func5 rfl rfl ?_
  have X0 := Ext.refl H
  refine AW.rs ?_
  refine AL.w rfl (.inl rfl) (WV.al ze27 rfl) ?_
  rintro _ H2 ⟨b1, rfl, hx3, hn4, hb5⟩
  have o6 := Nat.le_trans X0.bd hn4
  have X7 := Ext.trans X0 hx3
  have X8 := Ext.refl H2
  refine AL.val rfl (.inl rfl) (HV.as rfl) ?_
  refine AL.nx ?_
  refine AW.seq ?_
  refine AW.rs ?_
  refine AL.val rfl (.inl rfl) (HV.mv rfl) ?_
  refine AL.val rfl (.inl rfl) (HV.lenB Tryd.underlying9 rfl) ?_
  refine AL.val rfl (.inl rfl) (HV.gti rfl rfl) ?_
  refine AL.nx ?_
  refine AW.ifd rfl (fun c9 => ?_) (fun c9 => ?_)
  · -- then
    refine AW.rs ?_
    refine AL.val rfl (.inl rfl) (HV.bd rfl (bd27_ )) ?_
    refine AL.w0 (.inl rfl) (WV.st rfl rfl va27 rfl hb5 (Nat.le_of_ble_eq_true rfl) (one_cons rfl (one_cons (sl_one1 ⟨none, 0, rfl⟩) (one_cons rfl (one_cons rfl (one_cons (sl_one1 ⟨none, 0, rfl⟩) one_nil)))))) ?_
    rintro _ H10 ⟨hx11, hb12⟩
    have X13 := Ext.thru X7 hx11 (fun z_ hz_ => by rw [hz_]; exact o6)
    have q15 := Nat.le_trans X8.bd hx11.bd
    have hb16 : At W H10 b1 ⟨27, [.int .i64 0, (.slice none 0 0), .int .i64 0, .int .i64 0, (.slice none 0 0)], 5⟩ := hb12
    refine AL.val rfl (.inl rfl) (HV.as rfl) ?_
    refine AL.nx ?_
    refine AW.ret ?_
    refine ret_and ?_
    refine post_ct rfl rfl rfl va27 hb16 ?_ (.inr rfl)
    have hq := rd_2 (F := imF t) (t := t) (by omega); exact ⟨⟨.slice none 0 0, .slice none 0 0, fun _ => 0, by rw [hq.1, hq.2], by rw [hq.2]; exact OwnK.nil _, by rw [hq.2]; exact OwnD.nil _⟩, X13⟩
  · -- else
    refine AW.skip ?_
    refine nrm_and ?_
    refine AW.rs ?_
    refine AL.val rfl (.inl rfl) (HV.mv rfl) ?_
    have y17 := hb5.lt
    have o18 := X7.bd
    have o19 := X8.bd
    refine AL.w rfl (.inl rfl) (WV.call fn13 rfl (spl_ok hE t 10 hb (by decide) (by omega))) ?_
    rintro v20 H21 ⟨hx22, ho23⟩
    have X27 := Ext.trans X7 hx22
    have X28 := Ext.trans X8 hx22
    have hb29 := hb5.ext hx22
    have X30 := Ext.refl H21
    have hsl24 := sp_len (c := 10) t
    have hn26 := List.length_pos_iff.2 (spI_ne 10 t)
    have hr25 := (OwnK.sb ho23 (fun p hp => sp_isB hb p hp)).rd
    refine AL.val rfl (.inl rfl) (HV.as rfl) ?_
    refine AL.nx ?_
    refine AW.rs ?_
    refine AL.val rfl (.inl rfl) (HV.mv rfl) ?_
    obtain ⟨p31, z32, cs33, hz34, hK35, hC36, hP37⟩ := RdK.ix (q := 0) hr25 sl33 (by omega) (by omega)
    obtain ⟨rfl, hB38⟩ := hK35
    refine AL.val rfl (.inl rfl) (hP37 rfl rfl) ?_
    refine AL.val rfl (.inl rfl) (HV.ld rfl va9 (cells_first hC36 rfl)) ?_
    have y39 := hb29.lt
    have o40 := X27.bd
    have o41 := X28.bd
    have o42 := X30.bd
    have hlb : (⟨#[115, 99, 104, 101, 109, 101]⟩ : ByteArray) = bytesOf [115, 99, 104, 101, 109, 101] := by kernel_rfl
    have hrw := @readW_ok W H21 _ _ hE hB38 (show ∀ x ∈ ([115, 99, 104, 101, 109, 101] : List Int), 0 ≤ x ∧ x ≤ 255 by decide) (by first | omega | (rw [List.length_drop]; omega) | (have q : List.length _ ≤ _ := hsl24.2 _ (List.mem_of_getElem? (by assumption)); exact Nat.le_trans q (by omega))) (by first | decide | (rw [five_at (by omega)]; simp))
    rw [← hlb] at hrw
    refine AL.w rfl (.inl rfl) (WV.call fn14 rfl (hrw)) ?_
    rintro _ H47 ⟨⟨v43, k44, b45, rfl, ho49, hw46⟩, hx48⟩
    have X50 := Ext.trans X27 hx48
    have X51 := Ext.trans X28 hx48
    have X52 := Ext.trans X30 hx48
    have hb53 := hb29.ext hx48
    have X54 := Ext.refl H47
    refine AL.val rfl (.inl rfl) (HV.mv rfl) ?_
    refine AL.val rfl (.inl rfl) (HV.ex rfl rfl) ?_
    refine AL.val rfl (.inl rfl) (HV.ex rfl rfl) ?_
    refine AL.val rfl (.inl rfl) (HV.as rfl) ?_
    refine AL.val rfl (.inl rfl) (HV.as rfl) ?_
    refine AL.nx ?_
    refine AW.seq ?_
    refine AW.rs ?_
    refine AL.val rfl (.inl rfl) (HV.mv rfl) ?_
    refine AL.val rfl (.inl rfl) (HV.not rfl) ?_
    refine AL.val rfl (.inl rfl) (HV.mv rfl) ?_
    cases c56 : (!b45)
    · -- false
      refine AL.val rfl (.inr ⟨_, _, _, rfl, rfl, rfl⟩) (HV.mv rfl) ?_
      refine AL.val rfl (.inr ⟨_, _, _, rfl, rfl, rfl⟩) (HV.len Tryd.underlying22 rfl ho49.rd.isSl) ?_
      refine AL.val rfl (.inr ⟨_, _, _, rfl, rfl, rfl⟩) (HV.nei rfl rfl) ?_
      refine AL.val rfl (.inl rfl) (HV.pickF rfl rfl) ?_
      refine AL.nx ?_
      refine AW.ifd rfl (fun c57 => ?_) (fun c57 => ?_)
      · -- then
        refine AW.rs ?_
        refine AL.val rfl (.inl rfl) (HV.bd rfl (bd27_ )) ?_
        refine AL.w0 (.inl rfl) (WV.st rfl rfl va27 rfl hb53 (Nat.le_of_ble_eq_true rfl) (one_cons rfl (one_cons (sl_one1 ⟨none, 0, rfl⟩) (one_cons rfl (one_cons rfl (one_cons (sl_one1 ⟨none, 0, rfl⟩) one_nil)))))) ?_
        rintro _ H58 ⟨hx59, hb60⟩
        have X61 := Ext.thru X50 hx59 (fun z_ hz_ => by rw [hz_]; exact o6)
        have q63 := Nat.le_trans X51.bd hx59.bd
        have q65 := Nat.le_trans X52.bd hx59.bd
        have q67 := Nat.le_trans X54.bd hx59.bd
        have ho68 := ho49.but hx59 (fun b hb _ e => by have hb' : H21.bd ≤ b := hb; have e' : b = b1 := e; omega) (fun z_ hz_ => by rw [hz_]; exact hb53.w)
        have hb69 : At W H58 b1 ⟨27, [.int .i64 0, (.slice none 0 0), .int .i64 0, .int .i64 0, (.slice none 0 0)], 5⟩ := hb60
        refine AL.val rfl (.inl rfl) (HV.as rfl) ?_
        refine AL.nx ?_
        refine AW.ret ?_
        refine ret_and ?_
        refine post_ct rfl rfl rfl va27 hb69 ?_ (.inr rfl)
        have hq := rd_5 (F := imF t) (t := t) (by omega) ((by first | exact imF_no2 (k := k44) (by rw [hd_at (getq (j := 0) hz34 rfl)]; have hb_ : b45 = true := (by simpa using (by assumption : (!b45) = false)); rw [hb_, if_pos rfl] at hw46; exact hw46) (by omega) | exact imF_no1 (by rw [hd_at (getq (j := 0) hz34 rfl)]; have hb_ : b45 = false := (by simpa using (by assumption : (!b45) = true)); rw [hb_, if_neg (by decide)] at hw46; exact hw46))); exact ⟨⟨.slice none 0 0, .slice none 0 0, fun _ => 0, by rw [hq.1, hq.2], by rw [hq.2]; exact OwnK.nil _, by rw [hq.2]; exact OwnD.nil _⟩, X61⟩
      · -- else
        refine AW.skip ?_
        refine nrm_and ?_
        refine AW.seq ?_
        refine AW.draw' [0, 1, 3, 0, 8, 24, 0, 64, 192, 504, 1023, 0, 4095] mixed (by rfl) ?_
        have hbt : b45 = true := (by simpa using (by assumption : (!b45) = false))
        rw [hbt, if_pos rfl] at hw46
        have hH : rwI schW ((spI 10 t).headD []) = some k44 := by rw [hd_at (getq (j := 0) hz34 rfl)]; exact hw46
        have hk3 : k44.length = 3 := by omega
        have hrB := ((hr25.ext X52)).lo
        have hHB : H.bd ≤ H47.bd := X50.bd
        have hb2lt : b1 < H47.bd := hb53.lt
        have hb2w := hb53.w
        refine Dr.read 0 _ 33 _ rfl rfl rfl rfl rfl (RV.of (by intro _ _ h; cases h) (.inl rfl) (fun _ xd => HV.mv rfl)) ?_
        obtain ⟨g70, z71, cs72, hz73, hK74, hC75, hg76, hP77⟩ := OwnK.ix (q := 0) ho49 sl22 (by omega) (by omega)
        obtain rfl : cs72 = [.int .i64 z71] := hK74
        refine Dr.read 1 _ 34 _ rfl rfl rfl rfl rfl (RV.of (by intro _ _ h; cases h) (.inl rfl) (fun _ xd => hP77 rfl rfl)) ?_
        refine Dr.read 2 _ 35 _ rfl rfl rfl rfl rfl (RV.of (by intro _ _ h; cases h) (.inl rfl) (fun _ xd => HV.ld rfl va2 (rdc_ext xd (cells_first hC75 rfl)))) ?_
        refine Dr.read 3 _ 36 _ rfl rfl rfl rfl rfl (RV.of (by intro _ _ h; cases h) (.inl rfl) (fun _ xd => HV.mv rfl)) ?_
        obtain ⟨g78, z79, cs80, hz81, hK82, hC83, hg84, hP85⟩ := OwnK.ix (q := 1) ho49 sl22 (by omega) (by omega)
        obtain rfl : cs80 = [.int .i64 z79] := hK82
        refine Dr.read 4 _ 37 _ rfl rfl rfl rfl rfl (RV.of (by intro _ _ h; cases h) (.inl rfl) (fun _ xd => hP85 rfl rfl)) ?_
        refine Dr.read 5 _ 38 _ rfl rfl rfl rfl rfl (RV.of (by intro _ _ h; cases h) (.inl rfl) (fun _ xd => HV.ld rfl va2 (rdc_ext xd (cells_first hC83 rfl)))) ?_
        refine Dr.read 6 _ 39 _ rfl rfl rfl rfl rfl (RV.of (by intro _ _ h; cases h) (.inl rfl) (fun _ xd => HV.mv rfl)) ?_
        obtain ⟨g86, z87, cs88, hz89, hK90, hC91, hg92, hP93⟩ := OwnK.ix (q := 2) ho49 sl22 (by omega) (by omega)
        obtain rfl : cs88 = [.int .i64 z87] := hK90
        refine Dr.read 7 _ 40 _ rfl rfl rfl rfl rfl (RV.of (by intro _ _ h; cases h) (.inl rfl) (fun _ xd => hP93 rfl rfl)) ?_
        refine Dr.read 8 _ 41 _ rfl rfl rfl rfl rfl (RV.of (by intro _ _ h; cases h) (.inl rfl) (fun _ xd => HV.ld rfl va2 (rdc_ext xd (cells_first hC91 rfl)))) ?_
        refine Dr.read 9 _ 42 _ rfl rfl rfl rfl rfl (RV.of (by intro _ _ h; cases h) (.inl rfl) (fun _ xd => HV.bd rfl (bd25_0_1 z79 z87))) ?_
        refine Dr.read 10 _ 43 _ rfl rfl rfl rfl rfl (RV.of (by intro _ _ h; cases h) (.inl rfl) (fun _ xd => HV.bd rfl (bd27_0_2 z71 z79 z87))) ?_
        refine Dr.eff 11 _ _ rfl (by intro d h; cases h; exact ⟨rfl, rfl⟩) rfl rfl rfl (EC.of (by intro _ _ h; cases h) (.inl rfl) (WV.al ze27 rfl)) (fun v H' h => .inl (h.choose_spec.2.1)) ?_
        rintro _ H95 ⟨b94, rfl, hx96, hn97, hb98⟩
        have o99 := Nat.le_trans X50.bd hn97
        have o100 := Nat.le_trans X51.bd hn97
        have o101 := Nat.le_trans X52.bd hn97
        have o102 := Nat.le_trans X54.bd hn97
        have ne103 : b1 ≠ b94 := by have := hb53.lt; omega
        have X104 := Ext.trans X50 hx96
        have X105 := Ext.trans X51 hx96
        have X106 := Ext.trans X52 hx96
        have X107 := Ext.trans X54 hx96
        have hb108 := hb53.ext hx96
        have X109 := Ext.refl H95
        refine Dr.eff 12 _ _ rfl (by intro d h; cases h) rfl rfl rfl (EC.of (by intro _ _ h; cases h) (.inl rfl) (WV.st rfl rfl va27 rfl hb98 (Nat.le_of_ble_eq_true rfl) (one_cons rfl (one_cons (sl_one1 ⟨none, 0, rfl⟩) (one_cons rfl (one_cons rfl (one_cons (sl_one1 ⟨none, 0, rfl⟩) one_nil))))))) (fun v H' h => .inr (.inl rfl)) ?_
        rintro _ H110 ⟨hx111, hb112⟩
        have X113 := Ext.thru X104 hx111 (fun z_ hz_ => by rw [hz_]; exact o99)
        have X114 := Ext.thru X105 hx111 (fun z_ hz_ => by rw [hz_]; exact o100)
        have X115 := Ext.thru X106 hx111 (fun z_ hz_ => by rw [hz_]; exact o101)
        have X116 := Ext.thru X107 hx111 (fun z_ hz_ => by rw [hz_]; exact o102)
        have q118 := Nat.le_trans X109.bd hx111.bd
        have hb119 := hb108.but hx111 ne103
        have hb120 : At W H110 b94 ⟨27, [.int .i64 z71, (.slice none 0 0), .int .i64 z79, .int .i64 z87, (.slice none 0 0)], 5⟩ := hb112
        refine Dr.fin rfl ?_
        refine nrm_and ?_
        refine AW.seq ?_
        refine AW.rs ?_
        refine AL.val rfl (.inl rfl) (HV.mv rfl) ?_
        refine AL.val rfl (.inl rfl) (HV.mv rfl) ?_
        refine AL.val rfl (.inl rfl) (HV.len Tryd.underlying33 rfl hr25.isSl) ?_
        refine AL.val rfl (.inl rfl) (HV.sub rfl rfl (by omega)) ?_
        refine AL.val rfl (.inl rfl) (HV.mx rfl rfl) ?_
        obtain ⟨v121, hr122, hP123⟩ := RdK.cutLH (lo := 1) (hi := max 1 (((spI 10 t).length : Int) - 1)) hrB sl33 (by decide) (by omega) (by omega)
        rw [mids_sl (by omega)] at hr122
        have hmdl : (mids (spI 10 t)).length ≤ 4001 := by unfold mids; rw [List.length_dropLast, List.length_tail]; omega
        have hmdz : ∀ p ∈ mids (spI 10 t), p.length ≤ 4000 := fun p hp => by have := hsl24.2 p (List.mem_of_mem_tail ((List.dropLast_sublist _).subset hp)); omega
        refine AL.val rfl (.inl rfl) (hP123 rfl rfl rfl) ?_
        refine AL.val rfl (.inl rfl) (HV.len Tryd.underlying33 rfl hr122.isSl) ?_
        refine AL.val rfl (.inl rfl) (HV.mv rfl) ?_
        refine AL.nx ?_
        refine AW.block ?_
        have hHBb : H47.bd ≤ b94 := o102
        obtain ⟨hdA_, ehdA_⟩ : ∃ q : Int, q = z71 := ⟨_, rfl⟩
        obtain ⟨hdB_, ehdB_⟩ : ∃ q : Int, q = z79 := ⟨_, rfl⟩
        obtain ⟨hdC_, ehdC_⟩ : ∃ q : Int, q = z87 := ⟨_, rfl⟩
        have hG124 : Gr W H110 27 b94 H47.bd hdA_ hdB_ hdC_ (([] : List (Int × List Int)).map Prod.fst) (([] : List (Int × List Int)).map Prod.snd) (.slice none 0 0) (.slice none 0 0) := ⟨fun _ => True, by rw [ehdA_, ehdB_, ehdC_]; exact hb120, OwnK.nil _, OwnD.nil _⟩
        have hrL0 := hr122.ext X116
        refine AW.loop (σ := Nat × List (Int × List Int) × Value × Value) (fun ⟨i, rs, vo, vr⟩ => [(0, .string (bytesOf t)), (2, .pointer (some ⟨b1, 0, none⟩)), (7, .pointer (some ⟨b94, 0, none⟩)), (49, v121), (50, .int .i64 ((mids (spI 10 t)).length : Int)), (51, .int .i64 (i : Int))]) (fun ⟨i, rs, vo, vr⟩ H' => i ≤ (mids (spI 10 t)).length ∧ mm rlI ((mids (spI 10 t)).take i) = some rs ∧ But (fun b => H47.bd ≤ b) H110 H' ∧ Gr W H' 27 b94 H47.bd hdA_ hdB_ hdC_ (rs.map Prod.fst) (rs.map Prod.snd) vo vr ∧ True) (fun ⟨i, rs, vo, vr⟩ => (mids (spI 10 t)).length - i) (0, [], (.slice none 0 0), (.slice none 0 0)) ⟨Nat.zero_le _, rfl, But.refl _ _, hG124, trivial⟩ ⟨rfl, rfl, rfl, rfl, rfl, rfl, trivial⟩ ?_
        rintro ⟨i, rs, vo, vr⟩ H125 ⟨hi, hm, hBL, hG, _⟩
        have X126 := Ext.refl H125
        have hXL := Ext.thru X113 hBL (fun b e => Nat.le_trans hHB e)
        have hb2L := hb119.but hBL (fun e => by have q : H47.bd ≤ _ := e; omega)
        have hrL := hrL0.but hBL (fun b hb _ e => by have q1 : b < H47.bd := hb; have q2 : H47.bd ≤ b := e; omega) (fun b e => by have q2 : H47.bd ≤ b := e; omega)
        obtain ⟨S_, hat, hvo, hvr⟩ := hG
        have hvoL := hvo.ltb
        refine AW.rs ?_
        refine AL.val rfl (.inl rfl) (HV.lti rfl rfl) ?_
        refine AL.nx ?_
        refine AW.seq ?_
        refine AW.ifd rfl (fun c127 => ?_) (fun c127 => ?_)
        · -- then
          refine AW.skip ?_
          refine nrm_and ?_
          refine AW.seq ?_
          refine AW.block ?_
          refine AW.rs ?_
          obtain ⟨p128, z129, cs130, hz131, hK132, hC133, hP134⟩ := RdK.ix (q := (i : Int)) hrL sl33 (by omega) (by omega)
          obtain ⟨rfl, hB135⟩ := hK132
          refine AL.val rfl (.inl rfl) (hP134 rfl rfl) ?_
          refine AL.val rfl (.inl rfl) (HV.ld rfl va9 (cells_first hC133 rfl)) ?_
          refine AL.val rfl (.inl rfl) (HV.as rfl) ?_
          refine AL.nx ?_
          refine AW.seq ?_
          refine AW.rs ?_
          have hzl := hmdz _ (List.mem_of_getElem? hz131)
          refine AL.val rfl (.inl rfl) (HV.mv rfl) ?_
          refine AL.val rfl (.inl rfl) (HV.lenB Tryd.underlying9 rfl) ?_
          refine AL.val rfl (.inl rfl) (HV.lti rfl rfl) ?_
          refine AL.val rfl (.inl rfl) (HV.mv rfl) ?_
          by_cases c136 : (z129.length : Int) < 5
          · -- true
            have c136_ : decide ((z129.length : Int) < 5) = true := decide_eq_true c136
            rw [c136_]
            refine AL.off rfl rfl (by decide) rfl ?_
            refine AL.off rfl rfl (by decide) rfl ?_
            refine AL.off rfl rfl (by decide) rfl ?_
            refine AL.val rfl (.inl rfl) (HV.pickT rfl rfl) ?_
            refine AL.nx ?_
            refine AW.cond rfl (fun _ => ?_) (fun h => by cases h)
            refine AW.rs ?_
            refine AL.val rfl (.inl rfl) (HV.bd rfl (bd27_ )) ?_
            refine AL.w0 (.inl rfl) (WV.st rfl rfl va27 rfl hb2L (Nat.le_of_ble_eq_true rfl) (one_cons rfl (one_cons (sl_one1 ⟨none, 0, rfl⟩) (one_cons rfl (one_cons rfl (one_cons (sl_one1 ⟨none, 0, rfl⟩) one_nil)))))) ?_
            rintro _ H138 ⟨hx139, hb140⟩
            have X141 := Ext.thru hXL hx139 (fun z_ hz_ => by rw [hz_]; exact o6)
            have q143 := Nat.le_trans X126.bd hx139.bd
            have hb144 := hat.but hx139 (fun e => ne103 e.symm)
            have hb145 : At W H138 b1 ⟨27, [.int .i64 0, (.slice none 0 0), .int .i64 0, .int .i64 0, (.slice none 0 0)], 5⟩ := hb140
            refine AL.val rfl (.inl rfl) (HV.as rfl) ?_
            refine AL.nx ?_
            refine AW.ret ?_
            refine ret_and (ret_blk (ret_and (ret_and (ret_blk (ret_and ?_)))))
            refine post_ct rfl rfl rfl va27 hb145 ?_ (.inr rfl)
            have hq := rd_5 (F := imF t) (t := t) (by omega) (imF_no3 hH hk3 (mm_none (i := i) (getq hz131 rfl) (by first | exact rlI_no1 (by omega) | exact rlI_no2 (by assumption)))); exact ⟨⟨.slice none 0 0, .slice none 0 0, fun _ => 0, by rw [hq.1, hq.2], by rw [hq.2]; exact OwnK.nil _, by rw [hq.2]; exact OwnD.nil _⟩, X141⟩
          · -- false
            have c136_ : decide ((z129.length : Int) < 5) = false := decide_eq_false c136
            rw [c136_]
            refine AL.val rfl (.inr ⟨_, _, _, rfl, rfl, rfl⟩) (HV.mv rfl) ?_
            refine AL.val rfl (.inr ⟨_, _, _, rfl, rfl, rfl⟩) (HV.slhBn (n := 4) Tryd.underlying9 rfl rfl rfl (by omega)) ?_
            refine AL.val rfl (.inr ⟨_, _, _, rfl, rfl, rfl⟩) (HV.neB (a := (z129.take 4)) (b := [114, 111, 119, 32]) (isB_take hB135 _) (show ∀ x ∈ ([114, 111, 119, 32] : List Int), 0 ≤ x ∧ x ≤ 255 by decide) rfl rfl) ?_
            refine AL.val rfl (.inl rfl) (HV.pickF rfl rfl) ?_
            refine AL.nx ?_
            refine AW.ifd rfl (fun c146 => ?_) (fun c146 => ?_)
            · -- then
              refine AW.rs ?_
              refine AL.val rfl (.inl rfl) (HV.bd rfl (bd27_ )) ?_
              refine AL.w0 (.inl rfl) (WV.st rfl rfl va27 rfl hb2L (Nat.le_of_ble_eq_true rfl) (one_cons rfl (one_cons (sl_one1 ⟨none, 0, rfl⟩) (one_cons rfl (one_cons rfl (one_cons (sl_one1 ⟨none, 0, rfl⟩) one_nil)))))) ?_
              rintro _ H147 ⟨hx148, hb149⟩
              have X150 := Ext.thru hXL hx148 (fun z_ hz_ => by rw [hz_]; exact o6)
              have q152 := Nat.le_trans X126.bd hx148.bd
              have hb153 := hat.but hx148 (fun e => ne103 e.symm)
              have hb154 : At W H147 b1 ⟨27, [.int .i64 0, (.slice none 0 0), .int .i64 0, .int .i64 0, (.slice none 0 0)], 5⟩ := hb149
              refine AL.val rfl (.inl rfl) (HV.as rfl) ?_
              refine AL.nx ?_
              refine AW.ret ?_
              refine ret_and (ret_blk (ret_and (ret_and (ret_blk (ret_and ?_)))))
              refine post_ct rfl rfl rfl va27 hb154 ?_ (.inr rfl)
              have hq := rd_5 (F := imF t) (t := t) (by omega) (imF_no3 hH hk3 (mm_none (i := i) (getq hz131 rfl) (by first | exact rlI_no1 (by omega) | exact rlI_no2 (by assumption)))); exact ⟨⟨.slice none 0 0, .slice none 0 0, fun _ => 0, by rw [hq.1, hq.2], by rw [hq.2]; exact OwnK.nil _, by rw [hq.2]; exact OwnD.nil _⟩, X150⟩
            · -- else
              refine AW.skip ?_
              refine nrm_and ?_
              refine AW.seq ?_
              refine AW.draw' [0, 1, 0, 4, 15, 31, 63, 63, 127, 511] mixed (by rfl) ?_
              refine Dr.read 0 _ 65 _ rfl rfl rfl rfl rfl (RV.of (by intro _ _ h; cases h) (.inl rfl) (fun _ xd => HV.mv rfl)) ?_
              refine Dr.read 1 _ 66 _ rfl rfl rfl rfl rfl (RV.of (by intro _ _ h; cases h) (.inl rfl) (fun _ xd => HV.sllBn (m := 4) Tryd.underlying9 rfl rfl rfl (by omega))) ?_
              refine Dr.read 2 _ 67 _ rfl rfl rfl rfl rfl (RV.of (by intro _ _ h; cases h) (.inl rfl) (fun _ xd => HV.mv rfl)) ?_
              refine Dr.read 3 _ 68 _ rfl rfl rfl rfl rfl (RV.of (by intro _ _ h; cases h) (.inl rfl) (fun _ xd => HV.slBn (m := 4) (n := 5) Tryd.underlying9 rfl rfl rfl rfl rfl (by omega) (by omega))) ?_
              have y155 := hb2L.lt
              have y156 := hat.lt
              have o157 := hXL.bd
              have o158 := X126.bd
              refine Dr.eff 4 _ _ rfl (by intro d h; cases h; exact ⟨rfl, rfl⟩) rfl rfl rfl (EC.of (by intro _ _ h; cases h) (.inl rfl) (WV.call fn14 rfl (readW_ok hE (isB_drop hB135 _) (isB_drop (isB_take hB135 _) _) (by first | omega | (rw [List.length_drop]; omega) | (have q : List.length _ ≤ _ := hsl24.2 _ (List.mem_of_getElem? (by assumption)); exact Nat.le_trans q (by omega))) (by first | decide | (rw [five_at (by omega)]; simp))))) (fun v H' h => .inl (h.2)) ?_
              rintro _ H163 ⟨⟨v159, k160, b161, rfl, ho165, hw162⟩, hx164⟩
              have X166 := Ext.trans hXL hx164
              have X167 := Ext.trans X126 hx164
              have hb168 := hb2L.ext hx164
              have hb169 := hat.ext hx164
              have X170 := Ext.refl H163
              refine Dr.read 5 _ 64 _ rfl rfl rfl rfl rfl (RV.of (by intro _ _ h; cases h) (.inl rfl) (fun _ xd => HV.mv rfl)) ?_
              refine Dr.read 6 _ 70 _ rfl rfl rfl rfl rfl (RV.of (by intro _ _ h; cases h) (.inl rfl) (fun _ xd => HV.ex rfl rfl)) ?_
              refine Dr.read 7 _ 71 _ rfl rfl rfl rfl rfl (RV.of (by intro _ _ h; cases h) (.inl rfl) (fun _ xd => HV.ex rfl rfl)) ?_
              refine Dr.read 8 _ 10 _ rfl rfl rfl rfl rfl (RV.of (by intro _ _ h; cases h) (.inl rfl) (fun _ xd => HV.as rfl)) ?_
              refine Dr.read 9 _ 11 _ rfl rfl rfl rfl rfl (RV.of (by intro _ _ h; cases h) (.inl rfl) (fun _ xd => HV.as rfl)) ?_
              refine Dr.fin rfl ?_
              refine nrm_and ?_
              refine AW.seq ?_
              refine AW.rs ?_
              refine AL.val rfl (.inl rfl) (HV.mv rfl) ?_
              refine AL.val rfl (.inl rfl) (HV.not rfl) ?_
              refine AL.nx ?_
              refine AW.cond rfl (fun c172 => ?_) (fun c172 => ?_)
              · -- then
                refine AW.rs ?_
                refine AL.val rfl (.inl rfl) (HV.bd rfl (bd27_ )) ?_
                refine AL.w0 (.inl rfl) (WV.st rfl rfl va27 rfl hb168 (Nat.le_of_ble_eq_true rfl) (one_cons rfl (one_cons (sl_one1 ⟨none, 0, rfl⟩) (one_cons rfl (one_cons rfl (one_cons (sl_one1 ⟨none, 0, rfl⟩) one_nil)))))) ?_
                rintro _ H173 ⟨hx174, hb175⟩
                have X176 := Ext.thru X166 hx174 (fun z_ hz_ => by rw [hz_]; exact o6)
                have q178 := Nat.le_trans X167.bd hx174.bd
                have q180 := Nat.le_trans X170.bd hx174.bd
                have ho181 := ho165.but hx174 (fun b hb _ e => by have hb' : H125.bd ≤ b := hb; have e' : b = b1 := e; omega) (fun z_ hz_ => by rw [hz_]; exact hb168.w)
                have hb182 := hb169.but hx174 (fun e => ne103 e.symm)
                have hb183 : At W H173 b1 ⟨27, [.int .i64 0, (.slice none 0 0), .int .i64 0, .int .i64 0, (.slice none 0 0)], 5⟩ := hb175
                refine AL.val rfl (.inl rfl) (HV.as rfl) ?_
                refine AL.nx ?_
                refine AW.ret ?_
                refine ret_and (ret_blk (ret_and (ret_and (ret_blk (ret_and ?_)))))
                refine post_ct rfl rfl rfl va27 hb183 ?_ (.inr rfl)
                have hq := rd_5 (F := imF t) (t := t) (by omega) (imF_no3 hH hk3 (mm_none (i := i) (getq hz131 rfl) (rlI_no3 (by have hb_ : b161 = false := (by simpa using (by assumption : (!b161) = true)); rw [← five_at (by omega)]; rw [hb_, if_neg (by decide)] at hw162; exact hw162)))); exact ⟨⟨.slice none 0 0, .slice none 0 0, fun _ => 0, by rw [hq.1, hq.2], by rw [hq.2]; exact OwnK.nil _, by rw [hq.2]; exact OwnD.nil _⟩, X176⟩
              · -- else
                refine AW.skip ?_
                refine nrm_and ?_
                refine AW.seq ?_
                refine AW.draw' [0, 1, 0, 4, 12, 28, 60, 127, 255, 511] mixed (by rfl) ?_
                have hrsl := mm_len hm
                rw [List.length_take] at hrsl
                refine Dr.read 0 _ 75 _ rfl rfl rfl rfl rfl (RV.of (by intro _ _ h; cases h) (.inl rfl) (fun _ xd => HV.fa fl27_1 rfl)) ?_
                refine Dr.read 1 _ 76 _ rfl rfl rfl rfl rfl (RV.of (by intro _ _ h; cases h) (.inl rfl) (fun _ xd => HV.ld rfl va22 (rdc_ext xd (at_cell_add (j := 1) hb169 rfl)))) ?_
                refine Dr.read 2 _ 77 _ rfl rfl rfl rfl rfl (RV.of (by intro _ _ h; cases h) (.inl rfl) (fun _ xd => HV.mv rfl)) ?_
                refine Dr.read 3 _ 78 _ rfl rfl rfl rfl rfl (RV.of (by intro _ _ h; cases h) (.inl rfl) (fun _ xd => HV.ixB (n := 4) hB135 Tryd.underlying9 rfl rfl rfl (by omega))) ?_
                refine Dr.read 4 _ 79 _ rfl rfl rfl rfl rfl (RV.of (by intro _ _ h; cases h) (.inl rfl) (fun _ xd => HV.cve (by rw [Tryd.underlying5]; rfl) Tryd.underlying2 rfl (i64_u8 (isB_at hB135 4)))) ?_
                refine Dr.read 5 _ 80 _ rfl rfl rfl rfl rfl (RV.of (by intro _ _ h; cases h) (.inl rfl) (fun _ xd => HV.sub rfl rfl (by have q := isB_at hB135 4; omega))) ?_
                have y184 := hb168.lt
                have y185 := hb169.lt
                have o186 := X166.bd
                have o187 := X167.bd
                have o188 := X170.bd
                have a189 := ho165.ltb
                refine Dr.eff 6 _ _ rfl (by intro d h; cases h; exact ⟨rfl, rfl⟩) rfl rfl rfl (EC.of (by intro _ _ h; cases h) (.inl rfl) (WV.bsK (K := kI) (l := ([(z129.getD 4 0) - 65] : List Int)) (css := [[.int .i64 ((z129.getD 4 0) - 65)]]) sl22 rfl rfl (by first | rfl | (simp [Instr.fill, Value.cells, kI, kB, kU, kU8, kS, Kd.sc]; done) | (simp [Instr.fill, Value.cells, kI, kB, kU, kU8, kS, Kd.sc, rng1, rng2, rng3, rng4, kP])) rfl (segs_cons rfl segs_nil))) (fun v H' h => .inl (h.1)) ?_
                rintro v190 H191 ⟨hx192, ho193⟩
                have X194 := Ext.trans X166 hx192
                have X195 := Ext.trans X167 hx192
                have X196 := Ext.trans X170 hx192
                have ho197 := ho165.ext hx192
                have hb198 := hb168.ext hx192
                have hb199 := hb169.ext hx192
                have X201 := Ext.refl H191
                have xl211 := X195.bd
                refine Dr.eff 7 _ _ rfl (by intro d h; cases h; exact ⟨rfl, rfl⟩) rfl rfl rfl (EC.of (by intro _ _ h; cases h) (.inl rfl) (WV.apk sl22 rfl rfl (hvo.ext X195) ho193.rd (by simp; omega) (by simp; omega) (fun b hb _ e => by have h1 : H163.bd ≤ b := hb; have h2 := (hvoL b e); omega))) (fun v H' h => .inr (.inl rfl)) ?_
                rintro v202 H203 ⟨hx204, ho205, hb206⟩
                have hC207 := But.trans hBL (But.trans (Ext.but X195 _) (But.mono hx204 (fun b e => (hvo.blk b e).1.1.1)))
                have hat208 := (hat.ext X195).but hx204 (fun e => (hvo.blk _ e).1.1.2 rfl)
                have lt209 := ho205.ltb
                have lt212 := hat.lt
                have hn210 : ∀ b, some b = v202.ownBlock → (H47.bd ≤ b ∧ b ≠ b94) ∧ (some b = vo.ownBlock ∨ H191.bd ≤ b) := fun b e => (hb206 b e).elim (fun q => ⟨(hvo.blk b q).1.1, .inl q⟩) (fun (q : H191.bd ≤ b) => ⟨⟨by have := hBL.bd; omega, by omega⟩, .inr q⟩)
                have hvr213 := ((hvr.okk (ok' := fun b => ((H47.bd ≤ b ∧ b ≠ b94) ∧ ¬ S_ b) ∧ b < H125.bd) (fun b hb hlt => ⟨hb, hlt⟩)).ext X195).but hx204 (fun b hb _ e => hb.1.2 (hvo.blk b e).1.2) (fun b e => (hvo.blk b e).2.2)
                have hxr214 := (ho197.okk (ok' := fun b => H125.bd ≤ b ∧ b < H191.bd) (fun b hb hlt => ⟨hb, hlt⟩)).but hx204 (fun b hb _ e => by have h2 := hvoL b e; have h1 := hb.1; omega) (fun b e => (hvo.blk b e).2.2)
                have hb215 := hb198.but hx204 (fun e => by have h2 := (hvo.blk _ e).1.1.1; omega)
                have bl216 := hx204.bd
                have X217 := Ext.refl H203
                refine Dr.read 8 _ 83 _ rfl rfl rfl rfl rfl (RV.of (by intro _ _ h; cases h) (.inl rfl) (fun _ xd => HV.fa fl27_1 rfl)) ?_
                refine Dr.eff 9 _ _ rfl (by intro d h; cases h) rfl rfl rfl (EC.of (by intro _ _ h; cases h) (.inl rfl) (WV.st rfl rfl va22 (sl_size ho205.isSl) hat208 (Nat.le_of_ble_eq_true rfl) (sl_one ho205.isSl))) (fun v H' h => .inr (.inl rfl)) ?_
                rintro _ H218 ⟨hx219, ha220⟩
                rw [sl_cells ho205.isSl] at ha220
                have bl223 := hx219.bd
                have hat221 : At W H218 b94 ⟨27, [.int .i64 hdA_, v202, .int .i64 hdB_, .int .i64 hdC_, vr], 5⟩ := ha220
                have hC222 := But.trans hC207 (But.mono hx219 (fun b e => by have h : b = b94 := e; omega))
                have ho224 := (OwnK.narrow (ok' := fun b => some b = v202.ownBlock) kI_flat ho205 (fun b e => e)).but hx219 (fun b hb _ e => (hn210 b hb).1.2 e) (fun z_ hz_ => by rw [hz_]; exact hat208.w)
                have hvr225 := hvr213.but hx219 (fun b hb _ e => hb.1.1.2 e) (fun z_ hz_ => by rw [hz_]; exact hat208.w)
                have hxr226 := hxr214.but hx219 (fun b hb _ e => by have h1 := hb.1; have h : b = b94 := e; have := hat.lt; omega) (fun z_ hz_ => by rw [hz_]; exact hat208.w)
                have hb227 := hb215.but hx219 (fun e => by have h : _ = b94 := e; omega)
                have X228 := Ext.refl H218
                refine Dr.fin rfl ?_
                refine nrm_and ?_
                refine AW.reg ?_
                refine AL.val rfl (.inl rfl) (HV.fa fl27_2 rfl) ?_
                refine AL.val rfl (.inl rfl) (HV.fa fl25_2 rfl) ?_
                refine AL.val rfl (.inl rfl) (HV.ld rfl va23 (at_cell_add (j := 4) hat221 rfl)) ?_
                refine AL.val rfl (.inl rfl) (HV.mv rfl) ?_
                have hc229 : v159.cells = #[v159] := by obtain ⟨A, c, e⟩ := hxr226.isSl; rw [e]; rfl
                refine AL.w rfl (.inl rfl) (WV.bsO (okx := fun b => H125.bd ≤ b ∧ b < H191.bd) (K := kO 2 kI) (l := [k160]) (css := [[v159]]) sl23 rfl rfl (by simp [Instr.fill, hc229, kO, rng1]) rfl (segs_cons ⟨_, rfl, hxr226⟩ segs_nil)) ?_
                rintro v230 H231 ⟨hx232, ho233⟩
                have bl234 := hx232.bd
                have X235 := Ext.trans X228 hx232
                have hb236 := hb227.ext hx232
                have hb237 := hat221.ext hx232
                have X238 := Ext.refl H231
                have bl251 := hBL.bd
                have bl252 := X235.bd
                have lt253 := ho224.ltb
                refine AL.w rfl (.inl rfl) (WV.apE (okx := fun b => (H125.bd ≤ b ∧ b < H191.bd) ∨ H218.bd ≤ b) sl23 rfl rfl (hvr225.ext X235) ho233.rd (fun b h1 h2 => by have h3 := h1.2; rcases h2 with h2 | h2 <;> omega) (by simp; omega) (by simp; omega)) ?_
                rintro v239 H240 ⟨hx241, hD242, hb243⟩
                have hC244 := But.trans hC222 (But.trans (Ext.but X235 _) (But.mono hx241 (fun b e => (hvr225.blk b e).1.1.1.1)))
                have hat245 := (hat221.ext X235).but hx241 (fun e => (hvr225.blk _ e).1.1.1.2 rfl)
                have hn254 : ∀ b, some b = v202.ownBlock → some b = vr.ownBlock → False := fun b e1 e2 => by have h1 := (hvr225.blk b e2).1; rcases (hn210 b e1).2 with h2 | h2; (exact h1.1.2 (hvo.blk b h2).1.2); (have h3 := h1.2; omega)
                have ho246 := (ho224.ext X235).but hx241 (fun b hb _ e => hn254 b hb e) (fun b e => (hvr225.blk b e).2.2)
                have hb250 := hb236.but hx241 (fun e => by have h2 := (hvr225.blk _ e).1.1.1.1; omega)
                have lt255 := hat.lt
                have nB248 : ∀ b, (((((H47.bd ≤ b ∧ b ≠ b94) ∧ ¬ S_ b) ∧ b < H125.bd) ∧ b < H231.bd) ∨ (((H125.bd ≤ b ∧ b < H191.bd) ∨ H218.bd ≤ b) ∧ b < H231.bd) ∨ H231.bd ≤ b) → H47.bd ≤ b ∧ b ≠ b94 := fun b h => by rcases h with h | h | h; (exact h.1.1.1); (rcases h.1 with h1 | h1 <;> exact ⟨by omega, by omega⟩); (exact ⟨by omega, by omega⟩)
                have nD247 : ∀ b, (((((H47.bd ≤ b ∧ b ≠ b94) ∧ ¬ S_ b) ∧ b < H125.bd) ∧ b < H231.bd) ∨ (((H125.bd ≤ b ∧ b < H191.bd) ∨ H218.bd ≤ b) ∧ b < H231.bd) ∨ H231.bd ≤ b) → b = b94 → False := fun b h e => (nB248 b h).2 e
                have nS249 : ∀ b, (((((H47.bd ≤ b ∧ b ≠ b94) ∧ ¬ S_ b) ∧ b < H125.bd) ∧ b < H231.bd) ∨ (((H125.bd ≤ b ∧ b < H191.bd) ∨ H218.bd ≤ b) ∧ b < H231.bd) ∨ H231.bd ≤ b) → ¬ some b = v202.ownBlock := fun b h e => by have h5 := lt253 b e; rcases (hn210 b e).2 with h2 | h2; (have h6 := hvoL b h2; rcases h with h | h | h; (exact h.1.1.2 (hvo.blk b h2).1.2); (rcases h.1 with h1 | h1 <;> omega); (omega)); (rcases h with h | h | h; (have h7 := h.1.2; omega); (rcases h.1 with h1 | h1 <;> omega); (omega))
                have X256 := Ext.refl H240
                refine AL.val rfl (.inl rfl) (HV.fa fl27_2 rfl) ?_
                refine AL.val rfl (.inl rfl) (HV.fa fl25_2 rfl) ?_
                refine AL.w0 (.inl rfl) (WV.st rfl rfl va23 (sl_size hD242.own.isSl) hat245 (Nat.le_of_ble_eq_true rfl) (sl_one hD242.own.isSl)) ?_
                rintro _ H257 ⟨hx258, ha259⟩
                rw [sl_cells hD242.own.isSl] at ha259
                have bl262 := hx258.bd
                have hat260 : At W H257 b94 ⟨27, [.int .i64 hdA_, v202, .int .i64 hdB_, .int .i64 hdC_, v239], 5⟩ := ha259
                have hC261 := But.trans hC244 (But.mono hx258 (fun b e => by have h : b = b94 := e; omega))
                have ho263 := (OwnK.narrow (ok' := fun b => some b = v202.ownBlock) kI_flat ho246 (fun b e => e)).but hx258 (fun b hb _ e => (hn210 b hb).1.2 e) (fun z_ hz_ => by rw [hz_]; exact hat245.w)
                have hvr264 := hD242.but hx258 (fun b hb _ e => nD247 b hb e) (fun z_ hz_ => by rw [hz_]; exact hat245.w)
                have hb266 := hb250.but hx258 (fun e => by have h : _ = b94 := e; omega)
                have X267 := Ext.refl H257
                have hG268 : Gr W H257 27 b94 H47.bd hdA_ hdB_ hdC_ ((rs ++ [(z129.getD 4 0 - 65, k160)]).map Prod.fst) ((rs ++ [(z129.getD 4 0 - 65, k160)]).map Prod.snd) v202 v239 := ⟨(fun b => some b = v202.ownBlock), hat260, by rw [List.map_append]; exact ho263.okk (fun b hb _ => ⟨(hn210 b hb).1, hb⟩), by rw [List.map_append]; exact hvr264.okk (fun b hb _ => ⟨(nB248 b hb), nS249 b hb⟩)⟩
                refine AL.nil ?_
                refine nrm_blk (nrm_and ?_)
                refine AW.reg ?_
                refine AL.val rfl (.inl rfl) (HV.add rfl rfl (by omega)) ?_
                refine AL.val rfl (.inl rfl) (HV.mv rfl) ?_
                refine AL.nil ?_
                refine nrm_and ?_
                exact ⟨(i + 1, (rs ++ [(z129.getD 4 0 - 65, k160)]), v202, v239), ⟨by omega, mm_take hm (getq hz131 rfl) (rlI_yes (by omega) (Decidable.not_not.1 (by assumption)) (by have hb_ : b161 = true := (by simpa using (by assumption : (!b161) = false)); rw [← five_at (by omega)]; rw [hb_, if_pos rfl] at hw162; exact hw162)), hC261, hG268, trivial⟩, by first | omega | (dsimp only; omega), ⟨rfl, rfl, rfl, rfl, rfl, rfl, trivial⟩⟩
        · -- else
          refine AW.exit ?_
          refine ex_and (ex_and (ex_blk ?_))
          refine nrm_and ?_
          refine AW.seq ?_
          refine AW.rs ?_
          have eA : k44.getD 0 0 = hdA_ := (gd hz73 (by decide)).trans ehdA_.symm
          have eB : k44.getD 1 0 = hdB_ := (gd hz81 (by decide)).trans ehdB_.symm
          have eC : k44.getD 2 0 = hdC_ := (gd hz89 (by decide)).trans ehdC_.symm
          have hmE : mm rlI (mids (spI 10 t)) = some rs := by rw [← hm, List.take_of_length_le (by omega)]
          refine AL.val rfl (.inl rfl) (HV.lda (cs := [.int .i64 hdA_, vo, .int .i64 hdB_, .int .i64 hdC_, vr]) rfl va27 (at_cells hat rfl)) ?_
          refine AL.w rfl (.inl rfl) (WV.call fn15 rfl (implSX_ok hdA_ hdB_ hdC_ hvo.rd (rd_ofO hvr.rd))) ?_
          rintro _ H269 ⟨rfl, hx270⟩
          have X271 := Ext.trans hXL hx270
          have X272 := Ext.trans X126 hx270
          have hb273 := hb2L.ext hx270
          have hb274 := hat.ext hx270
          refine AL.val rfl (.inl rfl) (HV.mv rfl) ?_
          refine AL.val rfl (.inl rfl) (HV.neQ rfl rfl) ?_
          refine AL.nx ?_
          refine AW.ifd rfl (fun c275 => ?_) (fun c275 => ?_)
          · -- then
            refine AW.rs ?_
            refine AL.val rfl (.inl rfl) (HV.bd rfl (bd27_ )) ?_
            refine AL.w0 (.inl rfl) (WV.st rfl rfl va27 rfl hb273 (Nat.le_of_ble_eq_true rfl) (one_cons rfl (one_cons (sl_one1 ⟨none, 0, rfl⟩) (one_cons rfl (one_cons rfl (one_cons (sl_one1 ⟨none, 0, rfl⟩) one_nil)))))) ?_
            rintro _ H276 ⟨hx277, hb278⟩
            have X279 := Ext.thru X271 hx277 (fun z_ hz_ => by rw [hz_]; exact o6)
            have q281 := Nat.le_trans X272.bd hx277.bd
            have hb282 := hb274.but hx277 (fun e => ne103 e.symm)
            have hb283 : At W H276 b1 ⟨27, [.int .i64 0, (.slice none 0 0), .int .i64 0, .int .i64 0, (.slice none 0 0)], 5⟩ := hb278
            refine AL.val rfl (.inl rfl) (HV.as rfl) ?_
            refine AL.nx ?_
            refine AW.ret ?_
            refine ret_and ?_
            refine post_ct rfl rfl rfl va27 hb283 ?_ (.inr rfl)
            have hq := rd_5 (F := imF t) (t := t) (by omega) (imF_no4 hH hk3 hmE (by rw [eA, eB, eC]; assumption)); exact ⟨⟨.slice none 0 0, .slice none 0 0, fun _ => 0, by rw [hq.1, hq.2], by rw [hq.2]; exact OwnK.nil _, by rw [hq.2]; exact OwnD.nil _⟩, X279⟩
          · -- else
            refine AW.skip ?_
            refine nrm_and ?_
            refine AW.rs ?_
            have X284 := Ext.refl H269
            classical
            have hvoF := hvo.ext X272
            have hvrF := hvr.ext X272
            refine AL.val rfl (.inl rfl) (HV.lda (cs := [.int .i64 hdA_, vo, .int .i64 hdB_, .int .i64 hdC_, vr]) rfl va27 (at_cells hb274 rfl)) ?_
            refine AL.w0 (.inl rfl) (WV.st rfl rfl va27 rfl hb273 (Nat.le_of_ble_eq_true rfl) (one_cons rfl (one_cons (sl_one1 (hvo.rd.ext X272).isSl) (one_cons rfl (one_cons rfl (one_cons (sl_one1 ((rd_ofO hvr.rd).ext X272).isSl) one_nil)))))) ?_
            rintro _ H285 ⟨hx286, hb287⟩
            have X288 := Ext.thru X271 hx286 (fun z_ hz_ => by rw [hz_]; exact o6)
            have q290 := Nat.le_trans X272.bd hx286.bd
            have q292 := Nat.le_trans X284.bd hx286.bd
            have hb293 := hb274.but hx286 (fun e => ne103 e.symm)
            have hb294 : At W H285 b1 ⟨27, [.int .i64 hdA_, vo, .int .i64 hdB_, .int .i64 hdC_, vr], 5⟩ := hb287
            refine AL.val rfl (.inl rfl) (HV.as rfl) ?_
            refine AL.nx ?_
            refine AW.ret ?_
            refine post_ct rfl rfl rfl va27 hb294 ?_ (.inr rfl)
            have hq := rd_0 (F := imF t) (t := t) (by omega) (imF_yes hH hk3 hmE (by rw [eA, eB, eC]; exact Decidable.not_not.1 (by assumption))); exact ⟨⟨vo, vr, fun b => if S_ b then 0 else 1, by rw [hq.1, hq.2, eA, eB, eC], by rw [hq.2]; exact (hvoF.but hx286 (fun b hb _ e => by have h : b = b1 := e; have := hb.1.1; omega) (fun z_ hz_ => by rw [hz_]; exact hb2w)).okk (fun b hb _ => ⟨Nat.le_trans hHB hb.1.1, if_pos hb.2⟩), by rw [hq.2]; exact (hvrF.but hx286 (fun b hb _ e => by have h : b = b1 := e; have := hb.1.1; omega) (fun z_ hz_ => by rw [hz_]; exact hb2w)).okk (fun b hb _ => ⟨Nat.le_trans hHB hb.1.1, if_neg hb.2⟩)⟩, X288⟩
    · -- true
      refine AL.off rfl rfl (by decide) rfl ?_
      refine AL.off rfl rfl (by decide) rfl ?_
      refine AL.off rfl rfl (by decide) rfl ?_
      refine AL.val rfl (.inl rfl) (HV.pickT rfl rfl) ?_
      refine AL.nx ?_
      refine AW.cond rfl (fun _ => ?_) (fun h => by cases h)
      refine AW.rs ?_
      refine AL.val rfl (.inl rfl) (HV.bd rfl (bd27_ )) ?_
      refine AL.w0 (.inl rfl) (WV.st rfl rfl va27 rfl hb53 (Nat.le_of_ble_eq_true rfl) (one_cons rfl (one_cons (sl_one1 ⟨none, 0, rfl⟩) (one_cons rfl (one_cons rfl (one_cons (sl_one1 ⟨none, 0, rfl⟩) one_nil)))))) ?_
      rintro _ H296 ⟨hx297, hb298⟩
      have X299 := Ext.thru X50 hx297 (fun z_ hz_ => by rw [hz_]; exact o6)
      have q301 := Nat.le_trans X51.bd hx297.bd
      have q303 := Nat.le_trans X52.bd hx297.bd
      have q305 := Nat.le_trans X54.bd hx297.bd
      have ho306 := ho49.but hx297 (fun b hb _ e => by have hb' : H21.bd ≤ b := hb; have e' : b = b1 := e; omega) (fun z_ hz_ => by rw [hz_]; exact hb53.w)
      have hb307 : At W H296 b1 ⟨27, [.int .i64 0, (.slice none 0 0), .int .i64 0, .int .i64 0, (.slice none 0 0)], 5⟩ := hb298
      refine AL.val rfl (.inl rfl) (HV.as rfl) ?_
      refine AL.nx ?_
      refine AW.ret ?_
      refine ret_and ?_
      refine post_ct rfl rfl rfl va27 hb307 ?_ (.inr rfl)
      have hq := rd_5 (F := imF t) (t := t) (by omega) ((by first | exact imF_no2 (k := k44) (by rw [hd_at (getq (j := 0) hz34 rfl)]; have hb_ : b45 = true := (by simpa using (by assumption : (!b45) = false)); rw [hb_, if_pos rfl] at hw46; exact hw46) (by omega) | exact imF_no1 (by rw [hd_at (getq (j := 0) hz34 rfl)]; have hb_ : b45 = false := (by simpa using (by assumption : (!b45) = true)); rw [hb_, if_neg (by decide)] at hw46; exact hw46))); exact ⟨⟨.slice none 0 0, .slice none 0 0, fun _ => 0, by rw [hq.1, hq.2], by rw [hq.2]; exact OwnK.nil _, by rw [hq.2]; exact OwnD.nil _⟩, X299⟩
end Go.Proofs.YteajnanbfkcdcaaDoor.VC
