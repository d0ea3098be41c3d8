/- Walks. -/
import Derived.Test.YtonpikcbmgmchaaVF7
set_option linter.unusedVariables false
set_option linter.unusedSimpArgs false
namespace Go.Proofs.Ytonpikcbmgmchaa.VC
open Go Go.RowKit
variable {W : World} {H : Hp}

/-! ### Products, refreshed and re-dealt shares -/
open VI (dl dl_fst throughM addC addAt stripM pe cval_pe stripM_pe addC_pe addC_length pe_cons pe_nil)
theorem fsts_eq {l m : List (Int × Int)} (hl : l.length = m.length) (h : ∀ j, j < l.length → pxD l j = pxD m j) : l.map Prod.fst = m.map Prod.fst :=
  list_eq (d := 0) (by simpa using hl) (fun j hj => by rw [← px_map, ← px_map]; exact h j (by simpa using hj))
def mulF (p : Int) (l m : List (Int × Int)) (j : Nat) : Int × Int := ((l.getD j (0, 0)).1, (l.getD j (0, 0)).2 * (m.getD j (0, 0)).2 % p)
theorem mask_ok {p : Int} {R q : List Int} (hp : 2 ≤ p) (hl : R.length = 2) (hR : elems p R) (hq : q = (([0] : List Int) ++ R).set (2 : Int).toNat 1) : curveI p q ∧ q.getD 0 0 = 0 ∧ q.length = 3 := by
  match R, hl, hR, hq with
  | [a, b], _, hR, hq =>
    have ha := hR 0 (by simp)
    simp only [List.getD_cons_zero] at ha
    have e : q = [0, a, 1] := hq
    subst e
    refine ⟨⟨by simp, fun j hj => ?_, .inr (by simp)⟩, rfl, rfl⟩
    match j, hj with
    | 0, _ => simp; omega
    | 1, _ => simpa using ha
    | 2, _ => simp; omega
theorem refr_dl {p : Int} (hp : 0 < p) (c m pts : List Int) : refr p [m] (dl p c pts) = dl p (addC p 1 c m) pts := by
  unfold refr dl
  simp only [List.foldl_cons, List.foldl_nil, List.map_map]
  refine List.map_congr_left fun x _ => ?_
  simp only [Function.comp, addS, val_add hp, Int.one_mul]
def prd (a b : List Int) : List Int := [a.getD 0 0 * b.getD 0 0, a.getD 0 0 * b.getD 1 0 + a.getD 1 0 * b.getD 0 0, a.getD 1 0 * b.getD 1 0]
theorem pe_two {a : List Int} (h : a.length ≤ 2) (x : Int) : pe a x = a.getD 0 0 + x * a.getD 1 0 := by
  match a, h with
  | [], _ => simp [pe]
  | [a], _ => simp [pe]
  | [a, b], _ => simp [pe]
theorem val_prd {p : Int} (hp : 0 < p) {a b : List Int} (ha : a.length ≤ 2) (hb : b.length ≤ 2) (x : Int) : val p (prd a b) x = (val p a x * val p b x) % p := by
  refine val_of hp ?_
  have e : pe (prd a b) x = pe a x * pe b x := by
    rw [pe_two ha, pe_two hb]
    unfold prd
    simp only [pe_cons, pe_nil]
    grind
  rw [e]
  exact (val_cg p a x).symm.mul (val_cg p b x).symm
theorem dl_at (p : Int) (c pts : List Int) {j : Nat} (hj : j < pts.length) : (dl p c pts).getD j (0, 0) = (pts.getD j 0, val p c (pts.getD j 0)) := by
  simp [dl, hj]
theorem mul_dl {p : Int} (hp : 0 < p) {a b pts : List Int} (ha : a.length ≤ 2) (hb : b.length ≤ 2) : (List.range (dl p a pts).length).map (mulF p (dl p a pts) (dl p b pts)) = dl p (prd a b) pts := by
  apply list_eq (d := (0, 0))
  · simp [dl]
  · intro j hj
    have hj' : j < pts.length := by simpa [dl] using hj
    rw [dl_at p _ pts hj']
    have e : ((List.range (dl p a pts).length).map (mulF p (dl p a pts) (dl p b pts))).getD j (0, 0) = mulF p (dl p a pts) (dl p b pts) j := by
      simp [dl_len, hj']
    rw [e]
    unfold mulF
    rw [dl_at p a pts hj', dl_at p b pts hj', val_prd hp ha hb]
/-- The rows that re-share. -/
def rowF (D : List (Int × Int)) (A : List Int) (j : Nat) : List Int := [(D.getD j (0, 0)).2, A.getD j 0, 1]
theorem rowF_ok {p : Int} {D : List (Int × Int)} {A : List Int} (hv : vS p D) (hA : elems p A) {j : Nat} (hj : j < D.length) : curveI p (rowF D A j) ∧ val p (rowF D A j) 0 = (D.getD j (0, 0)).2 := by
  have h1 := vS_py hv hj
  have hp := hv.1.1
  have h2 := getD_in hA (show 0 < p by omega) j
  have he : elems p (rowF D A j) := fun q hq => by
    unfold rowF at hq ⊢
    match q, hq with
    | 0, _ => simpa using h1
    | 1, _ => simpa using h2
    | 2, _ => simp; omega
  refine ⟨⟨by simp [rowF], he, .inr (by simp [rowF])⟩, ?_⟩
  rw [val_zero he (by omega)]; rfl
theorem rows_at {D : List (Int × Int)} {A : List Int} {j n : Nat} (hj : j < n) : ((List.range n).map (rowF D A)).getD j [] = rowF D A j := by simp [hj]
def comb (p : Int) (w : List Int) (L : List (List Int)) (j : Nat) : List Int := (List.range j).foldl (fun s i => addC p (w.getD i 0) s (L.getD i [])) []
theorem comb_succ (p : Int) (w : List Int) (L : List (List Int)) (j : Nat) : comb p w L (j + 1) = addC p (w.getD j 0) (comb p w L j) (L.getD j []) := by
  unfold comb; rw [List.range_succ, List.foldl_append]; rfl
theorem comb_in {p : Int} (hp : 0 < p) (w : List Int) (L : List (List Int)) : ∀ j, elems p (comb p w L j)
  | 0 => fun q hq => absurd hq (Nat.not_lt_zero _)
  | j + 1 => by rw [comb_succ]; exact addC_in hp _ _ _
theorem comb_len (p : Int) (w : List Int) (L : List (List Int)) {n : Nat} (h : ∀ j, (L.getD j []).length ≤ n) : ∀ j, (comb p w L j).length ≤ n
  | 0 => Nat.zero_le _
  | j + 1 => by
    have h1 := comb_len p w L h j
    have h2 := h j
    rw [comb_succ, addC_length]; omega
theorem comb_val {p : Int} (hp : 0 < p) (w : List Int) (L : List (List Int)) (x : Int) : ∀ j, val p (comb p w L j) x = sumC p w L x j % p
  | 0 => by simp [comb, val, sumC]
  | j + 1 => by
    rw [comb_succ, val_add hp, comb_val hp w L x j, sumC_succ]
    exact mod_add
theorem resh_ok {p : Int} {D : List (Int × Int)} {A : List Int} {L : List (List Int)} (hv : vS p D) (hA : elems p A) (hL : L = (List.range D.length).map (rowF D A)) :
    (allC p L ∧ fits p D L ∧ (L.length : Int) = D.length) ∧ ∃ cr, (curveI p cr ∧ cr.length ≤ 3) ∧ val p cr 0 = opV p D 0 ∧ ∀ pts2, rsh p D L pts2 = dl p cr pts2 := by
  have hp := hv.1.1
  have hp0 : 0 < p := by omega
  have hll : L.length = D.length := by rw [hL]; simp
  have at_ : ∀ j, j < D.length → L.getD j [] = rowF D A j := fun j hj => by rw [hL]; exact rows_at hj
  refine ⟨⟨fun j hj => by rw [at_ j (by omega)]; exact (rowF_ok hv hA (by omega)).1, fun j hj => by rw [at_ j hj]; exact (rowF_ok hv hA hj).2, by omega⟩, ?_⟩
  have hlen : ∀ j, (L.getD j []).length ≤ 3 := fun j => by
    rcases Nat.lt_or_ge j D.length with h | h
    · rw [at_ j h]; simp [rowF]
    · rw [getD_ge (by omega)]; simp
  have hcl := comb_len p (wts p (D.map Prod.fst) 0 D.length) L hlen L.length
  refine ⟨stripM (comb p (wts p (D.map Prod.fst) 0 D.length) L L.length), ⟨curve_strip (comb_in hp0 _ _ _) (by omega), Nat.le_trans (strip_len _) hcl⟩, ?_, fun pts2 => ?_⟩
  · rw [val_strip hp0, comb_val hp0]
    unfold opV
    rw [List.length_map, wts_len, hll]
    have key : ∀ j, j ≤ D.length → sumC p (wts p (D.map Prod.fst) 0 D.length) L 0 j = dotI (wts p (D.map Prod.fst) 0 D.length) (D.map Prod.snd) j := by
      intro j
      induction j with
      | zero => intro _; rfl
      | succ j ih =>
        intro hj
        rw [sumC_succ, dotI_succ, ih (by omega), at_ j (by omega), (rowF_ok hv hA (show j < D.length by omega)).2, py_map]
    rw [key _ (Nat.le_refl _)]
  · unfold rsh dl
    refine List.map_congr_left fun x _ => ?_
    rw [val_strip hp0, comb_val hp0]
theorem dl_thr3 {p : Int} {c pts : List Int} (hp : primeI p) (hc : curveI p c) (hpt : ptsI p pts) (hl : c.length ≤ pts.length) : (throughM p ((dl p c pts).map Prod.fst) ((dl p c pts).map Prod.snd)).length = c.length := by rw [dl_thr hp hc hpt hl]
set_option maxRecDepth 100000 in
theorem ms1_ok (a b a2 b2 : Int) : ACalls Try.prog W 113 #[.agg #[.int .i64 a, .int .i64 b], .agg #[.int .i64 a2, .int .i64 b2]] H (fun r H' => r = .bool (decide (a = a2)) ∧ Ext H H') := by
  refine ACalls.of (args := [.agg #[.int .i64 a, .int .i64 b], .agg #[.int .i64 a2, .int .i64 b2]]) Try.func113 rfl rfl ?_
  have X0 := Ext.refl H
  refine AW.rs ?_
  refine AL.w rfl (.inl rfl) (WV.bx rfl rfl) ?_
  rintro _ H2 ⟨b1, rfl, hx3, hn4, hb5⟩
  have o6 := Nat.le_trans X0.bd hn4
  have X7 := Ext.trans X0 hx3
  have X8 := Ext.refl H2
  refine AL.w rfl (.inl rfl) (WV.bx rfl rfl) ?_
  rintro _ H10 ⟨b9, rfl, hx11, hn12, hb13⟩
  have o14 := Nat.le_trans X7.bd hn12
  have o15 := Nat.le_trans X8.bd hn12
  have ne16 : b1 ≠ b9 := by have := hb5.lt; omega
  have X17 := Ext.trans X7 hx11
  have X18 := Ext.trans X8 hx11
  have hb19 := hb5.ext hx11
  have X20 := Ext.refl H10
  refine AL.val rfl (.inl rfl) (HV.as rfl) ?_
  refine AL.nx ?_
  refine AW.rs ?_
  refine AL.val rfl (.inl rfl) (HV.fa fl68_0 rfl) ?_
  refine AL.val rfl (.inl rfl) (HV.ld rfl va2 (at_cell hb19 rfl)) ?_
  refine AL.val rfl (.inl rfl) (HV.fa fl68_0 rfl) ?_
  refine AL.val rfl (.inl rfl) (HV.ld rfl va2 (at_cell hb13 rfl)) ?_
  refine AL.val rfl (.inl rfl) (HV.eqi rfl rfl) ?_
  refine AL.val rfl (.inl rfl) (HV.as rfl) ?_
  refine AL.nx ?_
  refine AW.ret ?_
  refine post_one rfl rfl ?_ (.inr rfl)
  exact ⟨rfl, X17⟩

set_option maxRecDepth 100000 in
theorem eqfSh_ok {va vb : Value} {l m : List (Int × Int)} {ok ok2 : Nat → Prop} (hr : RdK (kP kI kI) W H ok va l) (hr2 : RdK (kP kI kI) W H ok2 vb m) : ACalls Try.prog W 112 #[va, vb, (.func (.func 113) #[] #[])] H (fun r H' => r = .bool (decide (l.map Prod.fst = m.map Prod.fst)) ∧ Ext H H') := by
  refine ACalls.of (args := [va, vb, (.func (.func 113) #[] #[])]) Try.func112 rfl rfl ?_
  have X0 := Ext.refl H
  have hm1 := hr.max
  have hm2 := hr2.max
  refine AW.rs ?_
  refine AL.val rfl (.inl rfl) (HV.as rfl) ?_
  refine AL.nx ?_
  refine AW.seq ?_
  refine AW.rs ?_
  refine AL.val rfl (.inl rfl) (HV.mv rfl) ?_
  refine AL.val rfl (.inl rfl) (HV.len Try.underlying27 rfl hr.isSl) ?_
  refine AL.val rfl (.inl rfl) (HV.mv rfl) ?_
  refine AL.val rfl (.inl rfl) (HV.len Try.underlying27 rfl hr2.isSl) ?_
  refine AL.val rfl (.inl rfl) (HV.nei rfl rfl) ?_
  refine AL.nx ?_
  refine AW.ifd rfl (fun c3 => ?_) (fun c3 => ?_)
  · -- then
    refine AW.rs ?_
    refine AL.val rfl (.inl rfl) (HV.as rfl) ?_
    refine AL.nx ?_
    refine AW.ret ?_
    refine ret_and ?_
    refine post_one rfl rfl ?_ (.inr rfl)
    exact ⟨dec_f (fun e => by have q := congrArg List.length e; simp only [List.length_map] at q; omega), X0⟩
  · -- else
    refine AW.skip ?_
    refine nrm_and ?_
    refine AW.seq ?_
    refine AW.rs ?_
    refine AL.val rfl (.inl rfl) (HV.mv rfl) ?_
    refine AL.val rfl (.inl rfl) (HV.len Try.underlying27 rfl hr.isSl) ?_
    refine AL.val rfl (.inl rfl) (HV.mv rfl) ?_
    refine AL.nx ?_
    refine AW.block ?_
    refine AW.loop (σ := Nat) (fun i => [(1, vb), (2, (.func (.func 113) #[] #[])), (15, va), (16, .int .i64 (l.length : Int)), (17, .int .i64 (i : Int))]) (fun i H' => Ext H H' ∧ i ≤ l.length ∧ (∀ j, j < i → pxD l j = pxD m j) ∧ True) (fun i => l.length - i) 0 ⟨X0, Nat.zero_le _, fun j hj => absurd hj (Nat.not_lt_zero _), trivial⟩ ⟨rfl, rfl, rfl, rfl, rfl, trivial⟩ ?_
    rintro i H4 ⟨X5, hi, he, _⟩
    refine AW.rs ?_
    refine AL.val rfl (.inl rfl) (HV.lti rfl rfl) ?_
    refine AL.nx ?_
    refine AW.seq ?_
    refine AW.ifd rfl (fun c6 => ?_) (fun c6 => ?_)
    · -- then
      refine AW.skip ?_
      refine nrm_and ?_
      refine AW.seq ?_
      refine AW.block ?_
      refine AW.rs ?_
      refine AL.val rfl (.inl rfl) (HV.mv rfl) ?_
      obtain ⟨p7, z8, cs9, hz10, hK11, hC12, hP13⟩ := RdK.ix (q := (i : Int)) hr sl27 (by omega) (by omega)
      obtain ⟨cs14, cs15, rfl, hK16, hK17⟩ := hK11
      obtain rfl : cs14 = [.int .i64 z8.1] := hK16
      obtain rfl : cs15 = [.int .i64 z8.2] := hK17
      refine AL.val rfl (.inl rfl) (hP13 rfl rfl) ?_
      refine AL.val rfl (.inl rfl) (HV.lda (cs := [.int .i64 z8.1, .int .i64 z8.2]) rfl va68 (hC12.ext X5)) ?_
      refine AL.w rfl (.inl rfl) (WV.al ze68 rfl) ?_
      rintro _ H19 ⟨b18, rfl, hx20, hn21, hb22⟩
      have o23 := Nat.le_trans X5.bd hn21
      have X24 := Ext.trans X5 hx20
      have X25 := Ext.refl H19
      refine AL.val rfl (.inl rfl) (HV.as rfl) ?_
      refine AL.w0 (.inl rfl) (WV.st rfl rfl va68 rfl hb22 (Nat.le_of_ble_eq_true rfl) (one_cons rfl (one_cons rfl one_nil))) ?_
      rintro _ H26 ⟨hx27, hb28⟩
      have X29 := Ext.thru X24 hx27 (fun z_ hz_ => by rw [hz_]; exact o23)
      have hb31 : At W H26 b18 ⟨68, [.int .i64 z8.1, .int .i64 z8.2], 2⟩ := hb28
      refine AL.nx ?_
      refine AW.rs ?_
      refine AL.val rfl (.inl rfl) (HV.mv rfl) ?_
      refine AL.val rfl (.inl rfl) (HV.mv rfl) ?_
      obtain ⟨p32, z33, cs34, hz35, hK36, hC37, hP38⟩ := RdK.ix (q := (i : Int)) hr2 sl27 (by omega) (by omega)
      obtain ⟨cs39, cs40, rfl, hK41, hK42⟩ := hK36
      obtain rfl : cs39 = [.int .i64 z33.1] := hK41
      obtain rfl : cs40 = [.int .i64 z33.2] := hK42
      refine AL.val rfl (.inl rfl) (hP38 rfl rfl) ?_
      refine AL.val rfl (.inl rfl) (HV.lda (cs := [.int .i64 z33.1, .int .i64 z33.2]) rfl va68 (hC37.ext X29)) ?_
      refine AL.w rfl (.inl rfl) (WV.al ze68 rfl) ?_
      rintro _ H44 ⟨b43, rfl, hx45, hn46, hb47⟩
      have o48 := Nat.le_trans X29.bd hn46
      have ne49 : b18 ≠ b43 := by have := hb31.lt; omega
      have X50 := Ext.trans X29 hx45
      have hb51 := hb31.ext hx45
      have X52 := Ext.refl H44
      refine AL.w0 (.inl rfl) (WV.st rfl rfl va68 rfl hb47 (Nat.le_of_ble_eq_true rfl) (one_cons rfl (one_cons rfl one_nil))) ?_
      rintro _ H53 ⟨hx54, hb55⟩
      have X56 := Ext.thru X50 hx54 (fun z_ hz_ => by rw [hz_]; exact o48)
      have hb58 := hb51.but hx54 ne49
      have hb59 : At W H53 b43 ⟨68, [.int .i64 z33.1, .int .i64 z33.2], 2⟩ := hb55
      refine AL.nx ?_
      refine AW.rs ?_
      refine AL.val rfl (.inl rfl) (HV.mv rfl) ?_
      refine AL.val rfl (.inl rfl) (HV.lda (cs := [.int .i64 z8.1, .int .i64 z8.2]) rfl va68 (at_cells hb58 rfl)) ?_
      refine AL.val rfl (.inl rfl) (HV.lda (cs := [.int .i64 z33.1, .int .i64 z33.2]) rfl va68 (at_cells hb59 rfl)) ?_
      refine AL.w rfl (.inl rfl) (WV.callv fn113 rfl rfl (ms1_ok (W := W) z8.1 z8.2 z33.1 z33.2)) ?_
      rintro _ H60 ⟨rfl, hx61⟩
      have X62 := Ext.trans X56 hx61
      have hb63 := hb58.ext hx61
      have hb64 := hb59.ext hx61
      refine AL.val rfl (.inl rfl) (HV.not rfl) ?_
      refine AL.nx ?_
      refine AW.ifn rfl (fun c65 => ?_) (fun c65 => ?_)
      · -- then
        refine AW.rs ?_
        refine AL.val rfl (.inl rfl) (HV.as rfl) ?_
        refine AL.nx ?_
        refine AW.ret ?_
        refine ret_blk (ret_and (ret_and (ret_blk (ret_and ?_))))
        refine post_one rfl rfl ?_ (.inr rfl)
        exact ⟨dec_f (fun e => by have q : (l.map Prod.fst).getD i 0 = (m.map Prod.fst).getD i 0 := (by rw [e]); rw [← px_map, ← px_map, px_at hz10, px_at hz35] at q; exact c65 q), X62⟩
      · -- else
        refine AW.skip ?_
        refine nrm_blk (nrm_and ?_)
        refine AW.reg ?_
        refine AL.val rfl (.inl rfl) (HV.add rfl rfl (by omega)) ?_
        refine AL.val rfl (.inl rfl) (HV.mv rfl) ?_
        refine AL.nil ?_
        refine nrm_and ?_
        exact ⟨i + 1, ⟨X62, by omega, fun j hj => (Nat.lt_or_ge j i).elim (fun h1 => he j h1) (fun h1 => by obtain rfl : j = i := (by omega); rw [px_at hz10, px_at hz35]; simpa using c65), trivial⟩, by first | omega | (dsimp only; omega), ⟨rfl, rfl, rfl, rfl, rfl, trivial⟩⟩
    · -- else
      refine AW.exit ?_
      refine ex_and (ex_and (ex_blk ?_))
      refine nrm_and ?_
      refine AW.rs ?_
      refine AL.val rfl (.inl rfl) (HV.as rfl) ?_
      refine AL.nx ?_
      refine AW.ret ?_
      refine post_one rfl rfl ?_ (.inr rfl)
      exact ⟨dec_t (fsts_eq (by omega) (fun j hj => he j (by omega))), X5⟩

set_option maxRecDepth 100000 in
theorem same_ok {v v2 : Value} {l m : List Int} {ok ok2 : Nat → Prop} (hr : RdK kI W H ok v l) (hr2 : RdK kI W H ok2 v2 m) : ACalls Try.prog W 114 #[v, v2] H (fun r H' => r = .bool (decide (l = m)) ∧ Ext H H') := by
  refine ACalls.of (args := [v, v2]) Try.func114 rfl rfl ?_
  have X0 := Ext.refl H
  have hm1 := hr.max
  have hm2 := hr2.max
  refine AW.rs ?_
  refine AL.val rfl (.inl rfl) (HV.as rfl) ?_
  refine AL.nx ?_
  refine AW.seq ?_
  refine AW.rs ?_
  refine AL.val rfl (.inl rfl) (HV.mv rfl) ?_
  refine AL.val rfl (.inl rfl) (HV.len Try.underlying24 rfl hr.isSl) ?_
  refine AL.val rfl (.inl rfl) (HV.mv rfl) ?_
  refine AL.val rfl (.inl rfl) (HV.len Try.underlying24 rfl hr2.isSl) ?_
  refine AL.val rfl (.inl rfl) (HV.nei rfl rfl) ?_
  refine AL.nx ?_
  refine AW.ifd rfl (fun c3 => ?_) (fun c3 => ?_)
  · -- then
    refine AW.rs ?_
    refine AL.val rfl (.inl rfl) (HV.as rfl) ?_
    refine AL.nx ?_
    refine AW.ret ?_
    refine ret_and ?_
    refine post_one rfl rfl ?_ (.inr rfl)
    exact ⟨dec_f (fun e => by subst e; omega), X0⟩
  · -- else
    refine AW.skip ?_
    refine nrm_and ?_
    refine AW.seq ?_
    refine AW.rs ?_
    refine AL.val rfl (.inl rfl) (HV.as rfl) ?_
    refine AL.nx ?_
    refine AW.block ?_
    refine AW.loop (σ := Nat) (fun i => [(0, v), (1, v2), (5, .int .i64 (i : Int))]) (fun i H' => Ext H H' ∧ i ≤ l.length ∧ (∀ j, j < i → l.getD j 0 = m.getD j 0) ∧ True) (fun i => l.length - i) 0 ⟨X0, Nat.zero_le _, fun j hj => absurd hj (Nat.not_lt_zero _), trivial⟩ ⟨rfl, rfl, rfl, trivial⟩ ?_
    rintro i H4 ⟨X5, hi, he, _⟩
    refine AW.seq ?_
    refine AW.rs ?_
    refine AL.val rfl (.inl rfl) (HV.mv rfl) ?_
    refine AL.val rfl (.inl rfl) (HV.mv rfl) ?_
    refine AL.val rfl (.inl rfl) (HV.len Try.underlying24 rfl hr.isSl) ?_
    refine AL.val rfl (.inl rfl) (HV.lti rfl rfl) ?_
    refine AL.nx ?_
    refine AW.ifd rfl (fun c6 => ?_) (fun c6 => ?_)
    · -- then
      refine AW.skip ?_
      refine nrm_and ?_
      refine AW.seq ?_
      refine AW.block ?_
      refine AW.seq ?_
      refine AW.draw' [0, 0, 3, 7, 0, 0, 48, 112, 255] mixed (by rfl) ?_
      refine Dr.read 0 _ 17 _ rfl rfl rfl rfl rfl (RV.of (by intro _ _ h; cases h) (.inl rfl) (fun _ xd => HV.mv rfl)) ?_
      refine Dr.read 1 _ 18 _ rfl rfl rfl rfl rfl (RV.of (by intro _ _ h; cases h) (.inl rfl) (fun _ xd => HV.mv rfl)) ?_
      obtain ⟨p7, z8, cs9, hz10, hK11, hC12, hP13⟩ := RdK.ix (q := (i : Int)) hr sl24 (by omega) (by omega)
      obtain rfl : cs9 = [.int .i64 z8] := hK11
      refine Dr.read 2 _ 19 _ rfl rfl rfl rfl rfl (RV.of (by intro _ _ h; cases h) (.inl rfl) (fun _ xd => hP13 rfl rfl)) ?_
      refine Dr.read 3 _ 20 _ rfl rfl rfl rfl rfl (RV.of (by intro _ _ h; cases h) (.inl rfl) (fun _ xd => HV.ld rfl va2 (rdc_ext xd (cells_first (hC12.ext X5) rfl)))) ?_
      refine Dr.read 4 _ 21 _ rfl rfl rfl rfl rfl (RV.of (by intro _ _ h; cases h) (.inl rfl) (fun _ xd => HV.mv rfl)) ?_
      refine Dr.read 5 _ 22 _ rfl rfl rfl rfl rfl (RV.of (by intro _ _ h; cases h) (.inl rfl) (fun _ xd => HV.mv rfl)) ?_
      obtain ⟨p14, z15, cs16, hz17, hK18, hC19, hP20⟩ := RdK.ix (q := (i : Int)) hr2 sl24 (by omega) (by omega)
      obtain rfl : cs16 = [.int .i64 z15] := hK18
      refine Dr.read 6 _ 23 _ rfl rfl rfl rfl rfl (RV.of (by intro _ _ h; cases h) (.inl rfl) (fun _ xd => hP20 rfl rfl)) ?_
      refine Dr.read 7 _ 24 _ rfl rfl rfl rfl rfl (RV.of (by intro _ _ h; cases h) (.inl rfl) (fun _ xd => HV.ld rfl va2 (rdc_ext xd (cells_first (hC19.ext X5) rfl)))) ?_
      refine Dr.read 8 _ 25 _ rfl rfl rfl rfl rfl (RV.of (by intro _ _ h; cases h) (.inl rfl) (fun _ xd => HV.nei rfl rfl)) ?_
      refine Dr.fin rfl ?_
      refine nrm_and ?_
      refine AW.ifd rfl (fun c21 => ?_) (fun c21 => ?_)
      · -- then
        refine AW.rs ?_
        refine AL.val rfl (.inl rfl) (HV.as rfl) ?_
        refine AL.nx ?_
        refine AW.ret ?_
        refine ret_blk (ret_and (ret_and (ret_blk (ret_and ?_))))
        refine post_one rfl rfl ?_ (.inr rfl)
        exact ⟨dec_f (fun e => by subst e; have g20 : l.getD i 0 = z8 := gd hz10 (by omega); have g24 : l.getD i 0 = z15 := gd hz17 (by omega); omega), X5⟩
      · -- else
        refine AW.skip ?_
        refine nrm_blk (nrm_and ?_)
        refine AW.reg ?_
        refine AL.val rfl (.inl rfl) (HV.mv rfl) ?_
        refine AL.val rfl (.inl rfl) (HV.add rfl rfl (by omega)) ?_
        refine AL.val rfl (.inl rfl) (HV.as rfl) ?_
        refine AL.nil ?_
        refine nrm_and ?_
        exact ⟨i + 1, ⟨X5, by omega, fun j hj => by
      rcases Nat.lt_or_ge j i with h1 | h1
      · exact he j h1
      · obtain rfl : j = i := by omega
        have g19 : l.getD j 0 = z8 := gd hz10 (by omega); have g23 : m.getD j 0 = z15 := gd hz17 (by omega); omega, trivial⟩, by first | omega | (dsimp only; omega), ⟨rfl, rfl, rfl, trivial⟩⟩
    · -- else
      refine AW.exit ?_
      refine ex_and (ex_and (ex_blk ?_))
      refine nrm_and ?_
      refine AW.rs ?_
      refine AL.val rfl (.inl rfl) (HV.as rfl) ?_
      refine AL.nx ?_
      refine AW.ret ?_
      refine post_one rfl rfl ?_ (.inr rfl)
      exact ⟨dec_t (list_eq (by omega) (fun j hj => he j (by omega))), X5⟩

set_option maxRecDepth 100000 in
theorem implMl_ok {va vb : Value} {l m : List (Int × Int)} {ok ok2 : Nat → Prop} {p : Int} (hr : RdK (kP kI kI) W H ok va l) (hr2 : RdK (kP kI kI) W H ok2 vb m) (hv : vS p l) (hv2 : vS p m) (hf : l.map Prod.fst = m.map Prod.fst) : ACalls Try.prog W 65 #[.int .i64 p, va, vb] H (fun r H' => (∃ v, r = .tuple #[v, .int .i64 0] ∧ OwnK (kP kI kI) 68 W H' (fun b => H.bd ≤ b) v ((List.range l.length).map (mulF p l m))) ∧ Ext H H') := by
  refine ACalls.of (args := [.int .i64 p, va, vb]) Try.func65 rfl rfl ?_
  have X0 := Ext.refl H
  have hm1 := hr.max
  have hm2 := hr2.max
  have hl10 := vS_len hv
  have hm10 := vS_len hv2
  have hp := hv.1.1
  have hlm : l.length = m.length := by have q := congrArg List.length hf; simpa using q
  refine AW.rs ?_
  refine AL.val rfl (.inl rfl) (HV.as rfl) ?_
  refine AL.val rfl (.inl rfl) (HV.as rfl) ?_
  refine AL.nx ?_
  refine AW.seq ?_
  refine AW.rs ?_
  refine AL.val rfl (.inl rfl) (HV.mv rfl) ?_
  refine AL.val rfl (.inl rfl) (HV.mv rfl) ?_
  refine AL.w rfl (.inl rfl) (WV.call fn62 rfl (implVS_ok hr p (by omega))) ?_
  rintro _ H3 ⟨rfl, hx4⟩
  have X5 := Ext.trans X0 hx4
  refine AL.val rfl (.inl rfl) (HV.not rfl) ?_
  refine AL.val rfl (.inl rfl) (HV.mv rfl) ?_
  by_cases c6 : vS p l
  · -- false
    have c6_ : (!decide (vS p l)) = false := by rw [decide_eq_true c6]; rfl
    rw [c6_]
    refine AL.val rfl (.inr ⟨_, _, _, rfl, rfl, rfl⟩) (HV.mv rfl) ?_
    refine AL.val rfl (.inr ⟨_, _, _, rfl, rfl, rfl⟩) (HV.mv rfl) ?_
    refine AL.w rfl (.inr ⟨_, _, _, rfl, rfl, rfl⟩) (WV.call fn62 rfl (implVS_ok (hr2.ext X5) p (by omega))) ?_
    rintro _ H7 ⟨rfl, hx8⟩
    have X9 := Ext.trans X5 hx8
    refine AL.val rfl (.inr ⟨_, _, _, rfl, rfl, rfl⟩) (HV.not rfl) ?_
    refine AL.val rfl (.inl rfl) (HV.pickF rfl rfl) ?_
    refine AL.nx ?_
    refine AW.ifn rfl (fun c10 => ?_) (fun c10 => ?_)
    · -- then
      refine AW.rs ?_
      refine AL.val rfl (.inl rfl) (HV.as rfl) ?_
      refine AL.val rfl (.inl rfl) (HV.as rfl) ?_
      refine AL.nx ?_
      refine AW.ret ?_
      refine ret_and ?_
      refine post_two rfl rfl rfl ?_ (.inr rfl)
      exfalso; first | exact c10 hv | exact c10 hv2 | exact c10 hf
    · -- else
      refine AW.skip ?_
      refine nrm_and ?_
      refine AW.seq ?_
      refine AW.rs ?_
      refine AL.val rfl (.inl rfl) (HV.mv rfl) ?_
      refine AL.val rfl (.inl rfl) (HV.mv rfl) ?_
      refine AL.w rfl (.inl rfl) (WV.call fn112 rfl (eqfSh_ok (hr.ext X9) (hr2.ext X9))) ?_
      rintro _ H11 ⟨rfl, hx12⟩
      have X13 := Ext.trans X9 hx12
      refine AL.val rfl (.inl rfl) (HV.not rfl) ?_
      refine AL.nx ?_
      refine AW.ifn rfl (fun c14 => ?_) (fun c14 => ?_)
      · -- then
        refine AW.rs ?_
        refine AL.val rfl (.inl rfl) (HV.as rfl) ?_
        refine AL.val rfl (.inl rfl) (HV.as rfl) ?_
        refine AL.nx ?_
        refine AW.ret ?_
        refine ret_and ?_
        refine post_two rfl rfl rfl ?_ (.inr rfl)
        exfalso; first | exact c14 hv | exact c14 hv2 | exact c14 hf
      · -- else
        refine AW.skip ?_
        refine nrm_and ?_
        refine AW.rs ?_
        refine AL.val rfl (.inl rfl) (HV.mv rfl) ?_
        have X15 := Ext.refl H11
        have o16 := X13.bd
        have o17 := X15.bd
        refine AL.w rfl (.inl rfl) (WV.call fn82 rfl (cloneSh_ok (hr.ext X13) (by omega))) ?_
        rintro v18 H19 ⟨hx20, ho21⟩
        have X22 := Ext.trans X13 hx20
        have X23 := Ext.trans X15 hx20
        refine AL.val rfl (.inl rfl) (HV.as rfl) ?_
        refine AL.nx ?_
        refine AW.seq ?_
        refine AW.rs ?_
        refine AL.val rfl (.inl rfl) (HV.mv rfl) ?_
        refine AL.val rfl (.inl rfl) (HV.len Try.underlying27 rfl ho21.rd.isSl) ?_
        refine AL.val rfl (.inl rfl) (HV.mv rfl) ?_
        refine AL.nx ?_
        refine AW.block ?_
        refine AW.loop (σ := Nat × List (Int × Int)) (fun ⟨i, k⟩ => [(0, .int .i64 p), (1, va), (2, vb), (6, (.slice none 0 0)), (7, .int .i64 0), (8, v18), (27, .int .i64 (l.length : Int)), (8, v18), (28, .int .i64 (i : Int))]) (fun ⟨i, k⟩ H' => Ext H H' ∧ Ext H11 H' ∧ i ≤ l.length ∧ k = updF (0, 0) (mulF p l m) l i ∧ k.length = l.length ∧ OwnK (kP kI kI) 68 W H' (fun b => H11.bd ≤ b) v18 k ∧ True) (fun ⟨i, k⟩ => l.length - i) (0, l) ⟨X22, X23, Nat.zero_le _, (updF_zero _ _ _).symm, rfl, ho21, trivial⟩ ⟨rfl, rfl, rfl, rfl, rfl, rfl, rfl, rfl, rfl, trivial⟩ ?_
        rintro ⟨i, k⟩ H25 ⟨X26, X27, hi, hk, hk2, hoL, _⟩
        refine AW.rs ?_
        refine AL.val rfl (.inl rfl) (HV.lti rfl rfl) ?_
        refine AL.nx ?_
        refine AW.seq ?_
        refine AW.ifd rfl (fun c28 => ?_) (fun c28 => ?_)
        · -- then
          refine AW.skip ?_
          refine nrm_and ?_
          refine AW.seq ?_
          refine AW.block ?_
          refine AW.rs ?_
          refine AL.val rfl (.inl rfl) (HV.mv rfl) ?_
          refine AL.val rfl (.inl rfl) (HV.as rfl) ?_
          refine AL.nx ?_
          refine AW.draw' [0, 0, 0, 0, 12, 28, 60, 0, 0, 384, 896, 1920, 4092, 0, 16380, 32767, 65535, 131071] mixed (by rfl) ?_
          refine Dr.read 0 _ 31 _ rfl rfl rfl rfl rfl (RV.of (by intro _ _ h; cases h) (.inl rfl) (fun _ xd => HV.mv rfl)) ?_
          refine Dr.read 1 _ 32 _ rfl rfl rfl rfl rfl (RV.of (by intro _ _ h; cases h) (.inl rfl) (fun _ xd => HV.mv rfl)) ?_
          refine Dr.read 2 _ 33 _ rfl rfl rfl rfl rfl (RV.of (by intro _ _ h; cases h) (.inl rfl) (fun _ xd => HV.mv rfl)) ?_
          refine Dr.read 3 _ 34 _ rfl rfl rfl rfl rfl (RV.of (by intro _ _ h; cases h) (.inl rfl) (fun _ xd => HV.mv rfl)) ?_
          obtain ⟨p29, z30, cs31, hz32, hK33, hC34, hP35⟩ := RdK.ix (q := (i : Int)) hr sl27 (by omega) (by omega)
          obtain ⟨cs36, cs37, rfl, hK38, hK39⟩ := hK33
          obtain rfl : cs36 = [.int .i64 z30.1] := hK38
          obtain rfl : cs37 = [.int .i64 z30.2] := hK39
          refine Dr.read 4 _ 35 _ rfl rfl rfl rfl rfl (RV.of (by intro _ _ h; cases h) (.inl rfl) (fun _ xd => hP35 rfl rfl)) ?_
          refine Dr.read 5 _ 36 _ rfl rfl rfl rfl rfl (RV.of (by intro _ _ h; cases h) (.inl rfl) (fun _ xd => HV.fa fl68_1 rfl)) ?_
          refine Dr.read 6 _ 37 _ rfl rfl rfl rfl rfl (RV.of (by intro _ _ h; cases h) (.inl rfl) (fun _ xd => HV.ld rfl va2 (rdc_ext xd (cells_at (hC34.ext X26) rfl)))) ?_
          refine Dr.read 7 _ 38 _ rfl rfl rfl rfl rfl (RV.of (by intro _ _ h; cases h) (.inl rfl) (fun _ xd => HV.mv rfl)) ?_
          refine Dr.read 8 _ 39 _ rfl rfl rfl rfl rfl (RV.of (by intro _ _ h; cases h) (.inl rfl) (fun _ xd => HV.mv rfl)) ?_
          obtain ⟨p40, z41, cs42, hz43, hK44, hC45, hP46⟩ := RdK.ix (q := (i : Int)) hr2 sl27 (by omega) (by omega)
          obtain ⟨cs47, cs48, rfl, hK49, hK50⟩ := hK44
          obtain rfl : cs47 = [.int .i64 z41.1] := hK49
          obtain rfl : cs48 = [.int .i64 z41.2] := hK50
          refine Dr.read 9 _ 40 _ rfl rfl rfl rfl rfl (RV.of (by intro _ _ h; cases h) (.inl rfl) (fun _ xd => hP46 rfl rfl)) ?_
          refine Dr.read 10 _ 41 _ rfl rfl rfl rfl rfl (RV.of (by intro _ _ h; cases h) (.inl rfl) (fun _ xd => HV.fa fl68_1 rfl)) ?_
          refine Dr.read 11 _ 42 _ rfl rfl rfl rfl rfl (RV.of (by intro _ _ h; cases h) (.inl rfl) (fun _ xd => HV.ld rfl va2 (rdc_ext xd (cells_at (hC45.ext X26) rfl)))) ?_
          have y1 := vS_py hv (show i < l.length by omega)
          rw [gd hz32 rfl] at y1
          have y2 := vS_py hv2 (show i < m.length by omega)
          rw [gd hz43 rfl] at y2
          have q43 := mul31 (a := z30.2) (b := z41.2) (by omega) (by omega) (by omega) (by omega)
          refine Dr.read 12 _ 43 _ rfl rfl rfl rfl rfl (RV.of (by intro _ _ h; cases h) (.inl rfl) (fun _ xd => HV.mul rfl rfl (by omega))) ?_
          refine Dr.read 13 _ 44 _ rfl rfl rfl rfl rfl (RV.of (by intro _ _ h; cases h) (.inl rfl) (fun _ xd => HV.mv rfl)) ?_
          refine Dr.read 14 _ 45 _ rfl rfl rfl rfl rfl (RV.of (by intro _ _ h; cases h) (.inl rfl) (fun _ xd => HV.rem rfl rfl (by omega))) ?_
          obtain ⟨g51, z52, cs53, hz54, hK55, hC56, hg57, hP58⟩ := OwnK.ix (q := (i : Int)) hoL sl27 (by omega) (by omega)
          have X59 := Ext.refl H25
          obtain ⟨cs60, cs61, rfl, hK62, hK63⟩ := hK55
          obtain rfl : cs60 = [.int .i64 z52.1] := hK62
          obtain rfl : cs61 = [.int .i64 z52.2] := hK63
          refine Dr.read 15 _ 46 _ rfl rfl rfl rfl rfl (RV.of (by intro _ _ h; cases h) (.inl rfl) (fun _ xd => hP58 rfl rfl)) ?_
          refine Dr.read 16 _ 47 _ rfl rfl rfl rfl rfl (RV.of (by intro _ _ h; cases h) (.inl rfl) (fun _ xd => HV.fa fl68_1 rfl)) ?_
          refine Dr.eff 17 _ _ rfl (by intro d h; cases h) rfl rfl rfl (EC.of (by intro _ _ h; cases h) (.inl rfl) (WV.stF (x' := (z52.1, (z30.2 * z41.2) % p)) (off := 1) (kP_flat kI_flat kI_flat) hoL hg57 rfl rfl va2 rfl hz54 (by decide) (one_cons rfl one_nil) (fun cs hc => by obtain ⟨_, _, rfl, rfl, rfl⟩ := hc; exact ⟨[.int .i64 z52.1], [.int .i64 ((z30.2 * z41.2) % p)], rfl, rfl, rfl⟩))) (fun v H' h => .inr (.inl rfl)) ?_
          rintro _ H64 ⟨hx65, ho66⟩
          have X68 := Ext.thru X26 hx65 (fun b hb => Nat.le_trans o16 (hoL.blk b hb).1)
          have X69 := Ext.thru X27 hx65 (fun b hb => Nat.le_trans o17 (hoL.blk b hb).1)
          refine Dr.fin rfl ?_
          refine nrm_blk (nrm_and ?_)
          refine AW.reg ?_
          refine AL.val rfl (.inl rfl) (HV.add rfl rfl (by omega)) ?_
          refine AL.val rfl (.inl rfl) (HV.mv rfl) ?_
          refine AL.nil ?_
          refine nrm_and ?_
          exact ⟨(i + 1, (k.set ((i : Int) : Int).toNat (z52.1, (z30.2 * z41.2) % p))), ⟨X68, X69, by omega, by rw [hk]; exact updF_set (by unfold mulF; rw [(updF_at (by rw [← hk]; exact hz54) : z52 = l.getD i (0, 0)), gd hz32 rfl, gd hz43 rfl]), by simp [hk2], ho66, trivial⟩, by first | omega | (dsimp only; omega), ⟨rfl, rfl, rfl, rfl, rfl, rfl, rfl, rfl, rfl, trivial⟩⟩
        · -- else
          refine AW.exit ?_
          refine ex_and (ex_and (ex_blk ?_))
          refine nrm_and ?_
          refine AW.rs ?_
          refine AL.val rfl (.inl rfl) (HV.mv rfl) ?_
          refine AL.val rfl (.inl rfl) (HV.as rfl) ?_
          refine AL.val rfl (.inl rfl) (HV.as rfl) ?_
          refine AL.nx ?_
          refine AW.ret ?_
          refine post_two rfl rfl rfl ?_ (.inr rfl)
          exact ⟨⟨_, rfl, by have e : k = (List.range l.length).map (mulF p l m) := (by rw [hk, updF_end (by omega)]); rw [← e]; exact hoL.okk (fun b hb _ => Nat.le_trans o16 hb)⟩, X26⟩
  · -- true
    have c6_ : (!decide (vS p l)) = true := by rw [decide_eq_false c6]; rfl
    rw [c6_]
    refine AL.off rfl rfl (by decide) rfl ?_
    refine AL.off rfl rfl (by decide) rfl ?_
    refine AL.off rfl rfl (by decide) rfl ?_
    refine AL.off rfl rfl (by decide) rfl ?_
    refine AL.val rfl (.inl rfl) (HV.pickT rfl rfl) ?_
    refine AL.nx ?_
    refine AW.cond rfl (fun _ => ?_) (fun h => by cases h)
    refine AW.rs ?_
    refine AL.val rfl (.inl rfl) (HV.as rfl) ?_
    refine AL.val rfl (.inl rfl) (HV.as rfl) ?_
    refine AL.nx ?_
    refine AW.ret ?_
    refine ret_and ?_
    refine post_two rfl rfl rfl ?_ (.inr rfl)
    exfalso; first | exact c6 hv | exact c6 hv2 | exact c6 hf

set_option maxRecDepth 100000 in
theorem specMl_ok {va vb : Value} {l m : List (Int × Int)} {ok ok2 : Nat → Prop} {p : Int} (hr : RdK (kP kI kI) W H ok va l) (hr2 : RdK (kP kI kI) W H ok2 vb m) (hv : vS p l) (hv2 : vS p m) (hf : l.map Prod.fst = m.map Prod.fst) : ACalls Try.prog W 66 #[.int .i64 p, va, vb] H (fun r H' => (∃ v, r = .tuple #[v, .int .i64 0] ∧ OwnK (kP kI kI) 68 W H' (fun b => H.bd ≤ b) v ((List.range l.length).map (mulF p l m))) ∧ Ext H H') := by
  refine ACalls.of (args := [.int .i64 p, va, vb]) Try.func66 rfl rfl ?_
  have X0 := Ext.refl H
  have hm1 := hr.max
  have hm2 := hr2.max
  have hl10 := vS_len hv
  have hm10 := vS_len hv2
  have hp := hv.1.1
  have hlm : l.length = m.length := by have q := congrArg List.length hf; simpa using q
  refine AW.rs ?_
  refine AL.val rfl (.inl rfl) (HV.as rfl) ?_
  refine AL.val rfl (.inl rfl) (HV.as rfl) ?_
  refine AL.nx ?_
  refine AW.seq ?_
  refine AW.rs ?_
  refine AL.val rfl (.inl rfl) (HV.mv rfl) ?_
  refine AL.val rfl (.inl rfl) (HV.mv rfl) ?_
  refine AL.w rfl (.inl rfl) (WV.call fn67 rfl (specVS_ok hr p (by omega))) ?_
  rintro _ H3 ⟨rfl, hx4⟩
  have X5 := Ext.trans X0 hx4
  refine AL.val rfl (.inl rfl) (HV.not rfl) ?_
  refine AL.val rfl (.inl rfl) (HV.mv rfl) ?_
  by_cases c6 : vS p l
  · -- false
    have c6_ : (!decide (vS p l)) = false := by rw [decide_eq_true c6]; rfl
    rw [c6_]
    refine AL.val rfl (.inr ⟨_, _, _, rfl, rfl, rfl⟩) (HV.mv rfl) ?_
    refine AL.val rfl (.inr ⟨_, _, _, rfl, rfl, rfl⟩) (HV.mv rfl) ?_
    refine AL.w rfl (.inr ⟨_, _, _, rfl, rfl, rfl⟩) (WV.call fn67 rfl (specVS_ok (hr2.ext X5) p (by omega))) ?_
    rintro _ H7 ⟨rfl, hx8⟩
    have X9 := Ext.trans X5 hx8
    refine AL.val rfl (.inr ⟨_, _, _, rfl, rfl, rfl⟩) (HV.not rfl) ?_
    refine AL.val rfl (.inl rfl) (HV.pickF rfl rfl) ?_
    refine AL.nx ?_
    refine AW.ifn rfl (fun c10 => ?_) (fun c10 => ?_)
    · -- then
      refine AW.rs ?_
      have X11 := Ext.refl H7
      have o12 := X9.bd
      have o13 := X11.bd
      refine AL.w rfl (.inl rfl) (WV.bsK (K := (kP kI kI)) (l := ([] : List (Int × Int))) (css := []) sl27 rfl rfl (by first | rfl | (simp [Instr.fill, Value.cells, kI, kB, kU, kS, Kd.sc]; done) | (simp [Instr.fill, Value.cells, kI, kB, kU, kS, Kd.sc, rng1, rng2, rng3, rng4, kP])) rfl segs_nil) ?_
      rintro v14 H15 ⟨hx16, ho17⟩
      have X18 := Ext.trans X9 hx16
      have X19 := Ext.trans X11 hx16
      refine AL.val rfl (.inl rfl) (HV.as rfl) ?_
      refine AL.val rfl (.inl rfl) (HV.as rfl) ?_
      refine AL.nx ?_
      refine AW.ret ?_
      refine ret_and ?_
      refine post_two rfl rfl rfl ?_ (.inr rfl)
      exfalso; first | exact c10 hv | exact c10 hv2 | exact c10 hf
    · -- else
      refine AW.skip ?_
      refine nrm_and ?_
      refine AW.seq ?_
      refine AW.rs ?_
      refine AL.val rfl (.inl rfl) (HV.mv rfl) ?_
      refine AL.w rfl (.inl rfl) (WV.call fn70 rfl (places_ok (hr.ext X9) (by omega))) ?_
      rintro v21 H22 ⟨hx23, ho24⟩
      have X26 := Ext.trans X9 hx23
      have X27 := Ext.refl H22
      have hr25 : RdK kI W H22 _ v21 (l.map Prod.fst) := ho24.rd
      refine AL.val rfl (.inl rfl) (HV.mv rfl) ?_
      refine AL.w rfl (.inl rfl) (WV.call fn70 rfl (places_ok (hr2.ext X26) (by omega))) ?_
      rintro v28 H29 ⟨hx30, ho31⟩
      have X33 := Ext.trans X26 hx30
      have X34 := Ext.trans X27 hx30
      have X35 := Ext.refl H29
      have hr32 : RdK kI W H29 _ v28 (m.map Prod.fst) := ho31.rd
      refine AL.w rfl (.inl rfl) (WV.call fn114 rfl (same_ok (hr25.ext X34) hr32)) ?_
      rintro _ H36 ⟨rfl, hx37⟩
      have X38 := Ext.trans X33 hx37
      have X39 := Ext.trans X34 hx37
      have X40 := Ext.trans X35 hx37
      refine AL.val rfl (.inl rfl) (HV.not rfl) ?_
      refine AL.nx ?_
      refine AW.ifn rfl (fun c41 => ?_) (fun c41 => ?_)
      · -- then
        refine AW.rs ?_
        have X42 := Ext.refl H36
        have o43 := X38.bd
        have o44 := X39.bd
        have o45 := X40.bd
        have o46 := X42.bd
        refine AL.w rfl (.inl rfl) (WV.bsK (K := (kP kI kI)) (l := ([] : List (Int × Int))) (css := []) sl27 rfl rfl (by first | rfl | (simp [Instr.fill, Value.cells, kI, kB, kU, kS, Kd.sc]; done) | (simp [Instr.fill, Value.cells, kI, kB, kU, kS, Kd.sc, rng1, rng2, rng3, rng4, kP])) rfl segs_nil) ?_
        rintro v47 H48 ⟨hx49, ho50⟩
        have X51 := Ext.trans X38 hx49
        have X52 := Ext.trans X39 hx49
        have X53 := Ext.trans X40 hx49
        have X54 := Ext.trans X42 hx49
        refine AL.val rfl (.inl rfl) (HV.as rfl) ?_
        refine AL.val rfl (.inl rfl) (HV.as rfl) ?_
        refine AL.nx ?_
        refine AW.ret ?_
        refine ret_and ?_
        refine post_two rfl rfl rfl ?_ (.inr rfl)
        exfalso; first | exact c41 hv | exact c41 hv2 | exact c41 hf
      · -- else
        refine AW.skip ?_
        refine nrm_and ?_
        refine AW.rs ?_
        have X56 := Ext.refl H36
        have o57 := X38.bd
        have o58 := X39.bd
        have o59 := X40.bd
        have o60 := X56.bd
        refine AL.w rfl (.inl rfl) (WV.bsK (K := (kP kI kI)) (l := ([] : List (Int × Int))) (css := []) sl27 rfl rfl (by first | rfl | (simp [Instr.fill, Value.cells, kI, kB, kU, kS, Kd.sc]; done) | (simp [Instr.fill, Value.cells, kI, kB, kU, kS, Kd.sc, rng1, rng2, rng3, rng4, kP])) rfl segs_nil) ?_
        rintro v61 H62 ⟨hx63, ho64⟩
        have X65 := Ext.trans X38 hx63
        have X66 := Ext.trans X39 hx63
        have X67 := Ext.trans X40 hx63
        have X68 := Ext.trans X56 hx63
        refine AL.val rfl (.inl rfl) (HV.as rfl) ?_
        refine AL.nx ?_
        refine AW.seq ?_
        refine AW.rs ?_
        refine AL.val rfl (.inl rfl) (HV.as rfl) ?_
        refine AL.nx ?_
        refine AW.block ?_
        refine AW.loop (σ := Nat × Value × List (Int × Int)) (fun ⟨i, vv, k⟩ => [(0, .int .i64 p), (1, va), (2, vb), (6, (.slice none 0 0)), (7, .int .i64 0), (8, vv), (9, .int .i64 (i : Int))]) (fun ⟨i, vv, k⟩ H' => Ext H H' ∧ Ext H22 H' ∧ Ext H29 H' ∧ Ext H36 H' ∧ i ≤ l.length ∧ k = (List.range i).map (mulF p l m) ∧ k.length = i ∧ OwnK (kP kI kI) 68 W H' (fun b => H36.bd ≤ b) vv k ∧ True) (fun ⟨i, vv, k⟩ => l.length - i) (0, v61, (([] : List (Int × Int)) : List (Int × Int))) ⟨X65, X66, X67, X68, Nat.zero_le _, rfl, rfl, ho64, trivial⟩ ⟨rfl, rfl, rfl, rfl, rfl, rfl, rfl, trivial⟩ ?_
        rintro ⟨i, vv, k⟩ H70 ⟨X71, X72, X73, X74, hi, hk, hk2, hoL, _⟩
        refine AW.seq ?_
        refine AW.rs ?_
        refine AL.val rfl (.inl rfl) (HV.mv rfl) ?_
        refine AL.val rfl (.inl rfl) (HV.mv rfl) ?_
        refine AL.val rfl (.inl rfl) (HV.len Try.underlying27 rfl hr.isSl) ?_
        refine AL.val rfl (.inl rfl) (HV.lti rfl rfl) ?_
        refine AL.nx ?_
        refine AW.ifd rfl (fun c75 => ?_) (fun c75 => ?_)
        · -- then
          refine AW.skip ?_
          refine nrm_and ?_
          refine AW.seq ?_
          refine AW.block ?_
          refine AW.draw' [0, 0, 0, 6, 14, 30, 0, 0, 192, 448, 960, 0, 0, 6144, 14336, 30720, 65472, 0, 262080, 524286, 1048574, 2097151, 4194303] mixed (by rfl) ?_
          refine Dr.read 0 _ 35 _ rfl rfl rfl rfl rfl (RV.of (by intro _ _ h; cases h) (.inl rfl) (fun _ xd => HV.mv rfl)) ?_
          refine Dr.read 1 _ 36 _ rfl rfl rfl rfl rfl (RV.of (by intro _ _ h; cases h) (.inl rfl) (fun _ xd => HV.mv rfl)) ?_
          refine Dr.read 2 _ 37 _ rfl rfl rfl rfl rfl (RV.of (by intro _ _ h; cases h) (.inl rfl) (fun _ xd => HV.mv rfl)) ?_
          obtain ⟨p76, z77, cs78, hz79, hK80, hC81, hP82⟩ := RdK.ix (q := (i : Int)) hr sl27 (by omega) (by omega)
          obtain ⟨cs83, cs84, rfl, hK85, hK86⟩ := hK80
          obtain rfl : cs83 = [.int .i64 z77.1] := hK85
          obtain rfl : cs84 = [.int .i64 z77.2] := hK86
          refine Dr.read 3 _ 38 _ rfl rfl rfl rfl rfl (RV.of (by intro _ _ h; cases h) (.inl rfl) (fun _ xd => hP82 rfl rfl)) ?_
          refine Dr.read 4 _ 39 _ rfl rfl rfl rfl rfl (RV.of (by intro _ _ h; cases h) (.inl rfl) (fun _ xd => HV.fa fl68_0 rfl)) ?_
          refine Dr.read 5 _ 40 _ rfl rfl rfl rfl rfl (RV.of (by intro _ _ h; cases h) (.inl rfl) (fun _ xd => HV.ld rfl va2 (rdc_ext xd (cells_first (hC81.ext X71) rfl)))) ?_
          refine Dr.read 6 _ 41 _ rfl rfl rfl rfl rfl (RV.of (by intro _ _ h; cases h) (.inl rfl) (fun _ xd => HV.mv rfl)) ?_
          refine Dr.read 7 _ 42 _ rfl rfl rfl rfl rfl (RV.of (by intro _ _ h; cases h) (.inl rfl) (fun _ xd => HV.mv rfl)) ?_
          obtain ⟨p87, z88, cs89, hz90, hK91, hC92, hP93⟩ := RdK.ix (q := (i : Int)) hr sl27 (by omega) (by omega)
          obtain ⟨cs94, cs95, rfl, hK96, hK97⟩ := hK91
          obtain rfl : cs94 = [.int .i64 z88.1] := hK96
          obtain rfl : cs95 = [.int .i64 z88.2] := hK97
          refine Dr.read 8 _ 43 _ rfl rfl rfl rfl rfl (RV.of (by intro _ _ h; cases h) (.inl rfl) (fun _ xd => hP93 rfl rfl)) ?_
          refine Dr.read 9 _ 44 _ rfl rfl rfl rfl rfl (RV.of (by intro _ _ h; cases h) (.inl rfl) (fun _ xd => HV.fa fl68_1 rfl)) ?_
          refine Dr.read 10 _ 45 _ rfl rfl rfl rfl rfl (RV.of (by intro _ _ h; cases h) (.inl rfl) (fun _ xd => HV.ld rfl va2 (rdc_ext xd (cells_at (hC92.ext X71) rfl)))) ?_
          refine Dr.read 11 _ 46 _ rfl rfl rfl rfl rfl (RV.of (by intro _ _ h; cases h) (.inl rfl) (fun _ xd => HV.mv rfl)) ?_
          refine Dr.read 12 _ 47 _ rfl rfl rfl rfl rfl (RV.of (by intro _ _ h; cases h) (.inl rfl) (fun _ xd => HV.mv rfl)) ?_
          obtain ⟨p98, z99, cs100, hz101, hK102, hC103, hP104⟩ := RdK.ix (q := (i : Int)) hr2 sl27 (by omega) (by omega)
          obtain ⟨cs105, cs106, rfl, hK107, hK108⟩ := hK102
          obtain rfl : cs105 = [.int .i64 z99.1] := hK107
          obtain rfl : cs106 = [.int .i64 z99.2] := hK108
          refine Dr.read 13 _ 48 _ rfl rfl rfl rfl rfl (RV.of (by intro _ _ h; cases h) (.inl rfl) (fun _ xd => hP104 rfl rfl)) ?_
          refine Dr.read 14 _ 49 _ rfl rfl rfl rfl rfl (RV.of (by intro _ _ h; cases h) (.inl rfl) (fun _ xd => HV.fa fl68_1 rfl)) ?_
          refine Dr.read 15 _ 50 _ rfl rfl rfl rfl rfl (RV.of (by intro _ _ h; cases h) (.inl rfl) (fun _ xd => HV.ld rfl va2 (rdc_ext xd (cells_at (hC103.ext X71) rfl)))) ?_
          have y1 := vS_py hv (show i < l.length by omega)
          rw [gd hz90 rfl] at y1
          have y2 := vS_py hv2 (show i < m.length by omega)
          rw [gd hz101 rfl] at y2
          have q43 := mul31 (a := z88.2) (b := z99.2) (by omega) (by omega) (by omega) (by omega)
          refine Dr.read 16 _ 51 _ rfl rfl rfl rfl rfl (RV.of (by intro _ _ h; cases h) (.inl rfl) (fun _ xd => HV.mul rfl rfl (by omega))) ?_
          refine Dr.read 17 _ 52 _ rfl rfl rfl rfl rfl (RV.of (by intro _ _ h; cases h) (.inl rfl) (fun _ xd => HV.mv rfl)) ?_
          refine Dr.read 18 _ 53 _ rfl rfl rfl rfl rfl (RV.of (by intro _ _ h; cases h) (.inl rfl) (fun _ xd => HV.rem rfl rfl (by omega))) ?_
          refine Dr.read 19 _ 54 _ rfl rfl rfl rfl rfl (RV.of (by intro _ _ h; cases h) (.inl rfl) (fun _ xd => HV.bd rfl (bd68_0_1 z77.1 ((z88.2 * z99.2) % p)))) ?_
          have X109 := Ext.refl H70
          have o110 := X71.bd
          have o111 := X72.bd
          have o112 := X73.bd
          have o113 := X74.bd
          have o114 := X109.bd
          have a115 := hoL.ltb
          refine Dr.eff 20 _ _ rfl (by intro d h; cases h; exact ⟨rfl, rfl⟩) rfl rfl rfl (EC.of (by intro _ _ h; cases h) (.inl rfl) (WV.bsK (K := (kP kI kI)) (l := ([((z77.1, (z88.2 * z99.2) % p) : (Int × Int))] : List (Int × Int))) (css := [[.int .i64 z77.1, .int .i64 ((z88.2 * z99.2) % p)]]) sl27 rfl rfl (by first | rfl | (simp [Instr.fill, Value.cells, kI, kB, kU, kS, Kd.sc]; done) | (simp [Instr.fill, Value.cells, kI, kB, kU, kS, Kd.sc, rng1, rng2, rng3, rng4, kP])) rfl (segs_cons ⟨[.int .i64 z77.1], [.int .i64 ((z88.2 * z99.2) % p)], rfl, rfl, rfl⟩ segs_nil))) (fun v H' h => .inl (h.1)) ?_
          rintro v116 H117 ⟨hx118, ho119⟩
          have X120 := Ext.trans X71 hx118
          have X121 := Ext.trans X72 hx118
          have X122 := Ext.trans X73 hx118
          have X123 := Ext.trans X74 hx118
          have X124 := Ext.trans X109 hx118
          have ho125 := hoL.ext hx118
          have X127 := Ext.refl H117
          refine Dr.eff 21 _ _ rfl (by intro d h; cases h; exact ⟨rfl, rfl⟩) rfl rfl rfl (EC.of (by intro _ _ h; cases h) (.inl rfl) (WV.apk sl27 rfl rfl ho125 ho119.rd (by rw [hk2]; simp; omega) (by rw [hk2]; simp; omega) (fun b hb _ e => Nat.lt_irrefl _ (Nat.lt_of_lt_of_le (a115 b e) hb)))) (fun v H' h => .inr (.inl rfl)) ?_
          rintro v128 H129 ⟨hx130, ho131, hb132⟩
          have ho133 := ho131.narrow (ok' := fun b => H36.bd ≤ b) (kP_flat kI_flat kI_flat) (fun b q => (hb132 b q).elim (fun e => (ho125.blk b e).1) (fun e => Nat.le_trans X123.bd e))
          have X134 := Ext.thru X120 hx130 (fun b hb => Nat.le_trans o57 (ho125.blk b hb).1)
          have X135 := Ext.thru X121 hx130 (fun b hb => Nat.le_trans o58 (ho125.blk b hb).1)
          have X136 := Ext.thru X122 hx130 (fun b hb => Nat.le_trans o59 (ho125.blk b hb).1)
          have X137 := Ext.thru X123 hx130 (fun b hb => Nat.le_trans o60 (ho125.blk b hb).1)
          refine Dr.eff 22 _ _ rfl (by intro d h; cases h; exact ⟨rfl, rfl⟩) rfl rfl rfl (EC.of (by intro _ _ h; cases h) (.inl rfl) (WV.ofHV (HV.as rfl))) (fun v H' h => .inl (h.2 ▸ Ext.refl _)) ?_
          rintro u_ h_ ⟨e1_, e2_⟩
          rw [e1_, e2_]
          clear e1_ e2_ u_ h_
          refine Dr.fin rfl ?_
          refine nrm_blk (nrm_and ?_)
          refine AW.reg ?_
          refine AL.val rfl (.inl rfl) (HV.mv rfl) ?_
          refine AL.val rfl (.inl rfl) (HV.add rfl rfl (by omega)) ?_
          refine AL.val rfl (.inl rfl) (HV.as rfl) ?_
          refine AL.nil ?_
          refine nrm_and ?_
          exact ⟨(i + 1, v128, (k ++ (([((z77.1, (z88.2 * z99.2) % p) : (Int × Int))] : List (Int × Int)) : List (Int × Int)))), ⟨X134, X135, X136, X137, by omega, by rw [List.range_succ, List.map_append, hk]; exact congrArg (fun z => (List.range i).map (mulF p l m) ++ [z]) (show _ = mulF p l m i by unfold mulF; rw [gd hz79 rfl, gd hz101 rfl, show z88 = z77 from same_at hz79 hz90]), by simp [hk2], ho133, trivial⟩, by first | omega | (dsimp only; omega), ⟨rfl, rfl, rfl, rfl, rfl, rfl, rfl, trivial⟩⟩
        · -- else
          refine AW.exit ?_
          refine ex_and (ex_and (ex_blk ?_))
          refine nrm_and ?_
          refine AW.rs ?_
          refine AL.val rfl (.inl rfl) (HV.mv rfl) ?_
          refine AL.val rfl (.inl rfl) (HV.as rfl) ?_
          refine AL.val rfl (.inl rfl) (HV.as rfl) ?_
          refine AL.nx ?_
          refine AW.ret ?_
          refine post_two rfl rfl rfl ?_ (.inr rfl)
          exact ⟨⟨_, rfl, by have e : k = (List.range l.length).map (mulF p l m) := (by rw [hk, show i = l.length by omega]); rw [← e]; exact hoL.okk (fun b hb _ => Nat.le_trans o57 hb)⟩, X71⟩
  · -- true
    have c6_ : (!decide (vS p l)) = true := by rw [decide_eq_false c6]; rfl
    rw [c6_]
    refine AL.off rfl rfl (by decide) rfl ?_
    refine AL.off rfl rfl (by decide) rfl ?_
    refine AL.off rfl rfl (by decide) rfl ?_
    refine AL.off rfl rfl (by decide) rfl ?_
    refine AL.val rfl (.inl rfl) (HV.pickT rfl rfl) ?_
    refine AL.nx ?_
    refine AW.cond rfl (fun _ => ?_) (fun h => by cases h)
    refine AW.rs ?_
    have X142 := Ext.refl H3
    have o143 := X5.bd
    have o144 := X142.bd
    refine AL.w rfl (.inl rfl) (WV.bsK (K := (kP kI kI)) (l := ([] : List (Int × Int))) (css := []) sl27 rfl rfl (by first | rfl | (simp [Instr.fill, Value.cells, kI, kB, kU, kS, Kd.sc]; done) | (simp [Instr.fill, Value.cells, kI, kB, kU, kS, Kd.sc, rng1, rng2, rng3, rng4, kP])) rfl segs_nil) ?_
    rintro v145 H146 ⟨hx147, ho148⟩
    have X149 := Ext.trans X5 hx147
    have X150 := Ext.trans X142 hx147
    refine AL.val rfl (.inl rfl) (HV.as rfl) ?_
    refine AL.val rfl (.inl rfl) (HV.as rfl) ?_
    refine AL.nx ?_
    refine AW.ret ?_
    refine ret_and ?_
    refine post_two rfl rfl rfl ?_ (.inr rfl)
    exfalso; first | exact c6 hv | exact c6 hv2 | exact c6 hf

theorem implRf0 {v vm : Value} {l : List (Int × Int)} {m : List (List Int)} {ok ok2 : Nat → Prop} (p : Int) (hr : RdK (kP kI kI) W H ok v l) (hr2 : RdK (kR kI) W H ok2 vm m) (hv : vS p l ∧ allC p m) (hz : zer m) (hl : l.length ≤ 1048576) : ACalls Try.prog W 29 #[.int .i64 p, v, vm] H (fun r H' => (∃ v, r = .tuple #[v, .int .i64 0] ∧ OwnK (kP kI kI) 68 W H' (fun b => H.bd ≤ b) v (refr p m l)) ∧ Ext H H') :=
  (implRf_ok p hr hr2 hl).mono fun r H' ⟨⟨v, k, h1, h2, h3⟩, hx⟩ => ⟨⟨v, by rw [h1, (rf_ok hv hz).1], by rw [← (rf_ok hv hz).2, ← h2]; exact h3⟩, hx⟩

theorem specRf0 {v vm : Value} {l : List (Int × Int)} {m : List (List Int)} {ok ok2 : Nat → Prop} (p : Int) (hr : RdK (kP kI kI) W H ok v l) (hr2 : RdK (kR kI) W H ok2 vm m) (hv : vS p l ∧ allC p m) (hz : zer m) (hl : l.length ≤ 1048576) : ACalls Try.prog W 27 #[.int .i64 p, v, vm] H (fun r H' => (∃ v, r = .tuple #[v, .int .i64 0] ∧ OwnK (kP kI kI) 68 W H' (fun b => H.bd ≤ b) v (refr p m l)) ∧ Ext H H') :=
  (specRf_ok p hr hr2 hl).mono fun r H' ⟨⟨v, k, h1, h2, h3⟩, hx⟩ => ⟨⟨v, by rw [h1, (rf_ok hv hz).1], by rw [← (rf_ok hv hz).2, ← h2]; exact h3⟩, hx⟩

theorem implRs0 {v vm : Value} {l : List (Int × Int)} {m : List (List Int)} {ok ok2 : Nat → Prop} (p : Int) (hr : RdK (kP kI kI) W H ok v l) (hr2 : RdK (kR kI) W H ok2 vm m) {vp : Value} {pts : List Int} {ok3 : Nat → Prop} (hr3 : RdK kI W H ok3 vp pts) (hv : vS p l ∧ allC p m) (hlp : (m.length : Int) = l.length ∧ ptsI p pts) (hfn : fits p l m ∧ (l.length : Int) ≠ 0) (hl : l.length ≤ 1048576) : ACalls Try.prog W 40 #[.int .i64 p, v, vm, vp] H (fun r H' => (∃ v, r = .tuple #[v, .int .i64 0] ∧ OwnK (kP kI kI) 68 W H' (fun b => H.bd ≤ b) v (rsh p l m pts)) ∧ Ext H H') :=
  (implRs_ok p hr hr2 hr3 hl).mono fun r H' ⟨⟨v, k, h1, h2, h3⟩, hx⟩ => ⟨⟨v, by rw [h1, (rs0 hv hlp hfn).1], by rw [← (rs0 hv hlp hfn).2, ← h2]; exact h3⟩, hx⟩

theorem specRs0 {v vm : Value} {l : List (Int × Int)} {m : List (List Int)} {ok ok2 : Nat → Prop} (p : Int) (hr : RdK (kP kI kI) W H ok v l) (hr2 : RdK (kR kI) W H ok2 vm m) {vp : Value} {pts : List Int} {ok3 : Nat → Prop} (hr3 : RdK kI W H ok3 vp pts) (hv : vS p l ∧ allC p m) (hlp : (m.length : Int) = l.length ∧ ptsI p pts) (hfn : fits p l m ∧ (l.length : Int) ≠ 0) (hl : l.length ≤ 1048576) : ACalls Try.prog W 38 #[.int .i64 p, v, vm, vp] H (fun r H' => (∃ v, r = .tuple #[v, .int .i64 0] ∧ OwnK (kP kI kI) 68 W H' (fun b => H.bd ≤ b) v (rsh p l m pts)) ∧ Ext H H') :=
  (specRs_ok p hr hr2 hr3 hl).mono fun r H' ⟨⟨v, k, h1, h2, h3⟩, hx⟩ => ⟨⟨v, by rw [h1, (rs0 hv hlp hfn).1], by rw [← (rs0 hv hlp hfn).2, ← h2]; exact h3⟩, hx⟩

set_option maxRecDepth 100000 in
theorem law_Refresh {vc vd : Value} {l l2 : List Int} (hr : RdK kU8 W H (fun _ => False) vc l) (hby : bytes l) (hr2 : RdK kU8 W H (fun _ => False) vd l2) (hby2 : bytes l2) : ACalls Try.prog W 14 #[vc, vd] H (fun r H' => r = .bool true ∧ Ext H H') := by
  refine ACalls.of (args := [vc, vd]) Try.func14 rfl rfl ?_
  have X0 := Ext.refl H
  have hm1 := hr.max
  have hm2 := hr2.max
  refine AW.rs ?_
  refine AL.val rfl (.inl rfl) (HV.as rfl) ?_
  refine AL.nx ?_
  refine AW.seq ?_
  refine AW.rs ?_
  refine AL.val rfl (.inl rfl) (HV.mv rfl) ?_
  refine AL.w rfl (.inl rfl) (WV.call fn41 rfl (f6big_ok hr)) ?_
  rintro _ H3 ⟨rfl, hx4⟩
  have X5 := Ext.trans X0 hx4
  refine AL.val rfl (.inl rfl) (HV.mv rfl) ?_
  by_cases c6 : (l.length : Int) > 4096
  · -- true
    have c6_ : decide ((l.length : Int) > 4096) = true := decide_eq_true c6
    rw [c6_]
    refine AL.off rfl rfl (by decide) rfl ?_
    refine AL.off rfl rfl (by decide) rfl ?_
    refine AL.val rfl (.inl rfl) (HV.pickT rfl rfl) ?_
    refine AL.nx ?_
    refine AW.cond rfl (fun _ => ?_) (fun h => by cases h)
    refine AW.rs ?_
    refine AL.val rfl (.inl rfl) (HV.as rfl) ?_
    refine AL.nx ?_
    refine AW.ret ?_
    refine ret_and ?_
    refine post_one rfl rfl ?_ (.inr rfl)
    exact ⟨rfl, X5⟩
  · -- false
    have c6_ : decide ((l.length : Int) > 4096) = false := decide_eq_false c6
    rw [c6_]
    refine AL.val rfl (.inr ⟨_, _, _, rfl, rfl, rfl⟩) (HV.mv rfl) ?_
    refine AL.w rfl (.inr ⟨_, _, _, rfl, rfl, rfl⟩) (WV.call fn41 rfl (f6big_ok (hr2.ext X5))) ?_
    rintro _ H8 ⟨rfl, hx9⟩
    have X10 := Ext.trans X5 hx9
    refine AL.val rfl (.inl rfl) (HV.pickF rfl rfl) ?_
    refine AL.nx ?_
    refine AW.ifd rfl (fun c11 => ?_) (fun c11 => ?_)
    · -- then
      refine AW.rs ?_
      refine AL.val rfl (.inl rfl) (HV.as rfl) ?_
      refine AL.nx ?_
      refine AW.ret ?_
      refine ret_and ?_
      refine post_one rfl rfl ?_ (.inr rfl)
      exact ⟨rfl, X10⟩
    · -- else
      refine AW.skip ?_
      refine nrm_and ?_
      refine AW.rs ?_
      refine AL.val rfl (.inl rfl) (HV.mv rfl) ?_
      refine AL.w rfl (.inl rfl) (WV.call fn42 rfl (p6Prime_ok (hr.ext X10) hby)) ?_
      rintro _ H12 ⟨⟨p, rfl, h14⟩, hx13⟩
      have X15 := Ext.trans X10 hx13
      have hP := prime_of h14
      have hp0 : 0 < p := by omega
      refine AL.val rfl (.inl rfl) (HV.as rfl) ?_
      refine AL.nx ?_
      refine AW.rs ?_
      refine AL.val rfl (.inl rfl) (HV.mv rfl) ?_
      refine AL.val rfl (.inl rfl) (HV.mv rfl) ?_
      refine AL.w rfl (.inl rfl) (WV.call fn43 rfl (p6Curve_ok (hr.ext X15) hby p 1 (by omega) (by omega))) ?_
      rintro v16 H17 ⟨⟨ca, ho19, h20⟩, hx18⟩
      have X22 := Ext.trans X15 hx18
      have X23 := Ext.refl H17
      have hr21 := ho19.rd
      have hca := h20.1
      have hcal := h20.2
      refine AL.val rfl (.inl rfl) (HV.as rfl) ?_
      refine AL.nx ?_
      refine AW.rs ?_
      refine AL.val rfl (.inl rfl) (HV.mv rfl) ?_
      refine AL.val rfl (.inl rfl) (HV.mv rfl) ?_
      refine AL.w rfl (.inl rfl) (WV.call fn43 rfl (p6Curve_ok (hr2.ext X22) hby2 p 1 (by omega) (by omega))) ?_
      rintro v24 H25 ⟨⟨cb, ho27, h28⟩, hx26⟩
      have X30 := Ext.trans X22 hx26
      have X31 := Ext.trans X23 hx26
      have X32 := Ext.refl H25
      have hr29 := ho27.rd
      have hcb := h28.1
      have hcbl := h28.2
      refine AL.val rfl (.inl rfl) (HV.as rfl) ?_
      refine AL.nx ?_
      refine AW.rs ?_
      refine AL.val rfl (.inl rfl) (HV.mv rfl) ?_
      refine AL.val rfl (.inl rfl) (HV.mv rfl) ?_
      refine AL.w rfl (.inl rfl) (WV.call fn44 rfl (p6Points_ok (hr2.ext X30) hby2 p 3 (by omega) (by omega))) ?_
      rintro v33 H34 ⟨⟨pts, ho36, h37⟩, hx35⟩
      have X39 := Ext.trans X30 hx35
      have X40 := Ext.trans X31 hx35
      have X41 := Ext.trans X32 hx35
      have X42 := Ext.refl H34
      have hr38 := ho36.rd
      have hpt : ptsI p pts := ⟨by have := h37.2.1; omega, h37.1⟩
      have hptl := h37.2.2
      have hpt10 := h37.2.1
      refine AL.val rfl (.inl rfl) (HV.as rfl) ?_
      refine AL.nx ?_
      refine AW.rs ?_
      refine AL.val rfl (.inl rfl) (HV.mv rfl) ?_
      refine AL.val rfl (.inl rfl) (HV.mv rfl) ?_
      refine AL.val rfl (.inl rfl) (HV.mv rfl) ?_
      refine AL.w rfl (.inl rfl) (WV.call fn50 rfl (dealSh_ok p (hr21.ext X40) hr38 ⟨hP.1, hca⟩ hpt)) ?_
      rintro _ H44 ⟨⟨v43, rfl, hr46⟩, hx45⟩
      have X47 := Ext.trans X39 hx45
      have X48 := Ext.trans X40 hx45
      have X49 := Ext.trans X41 hx45
      have X50 := Ext.trans X42 hx45
      have X51 := Ext.refl H44
      have hr52 : RdK (kP kI kI) W H44 _ v43 (dl p ca pts) := hr46.rd
      refine AL.val rfl (.inl rfl) (HV.mv rfl) ?_
      refine AL.val rfl (.inl rfl) (HV.ex rfl rfl) ?_
      refine AL.val rfl (.inl rfl) (HV.ex rfl rfl) ?_
      refine AL.val rfl (.inl rfl) (HV.as rfl) ?_
      refine AL.val rfl (.inl rfl) (HV.as rfl) ?_
      refine AL.nx ?_
      refine AW.rs ?_
      refine AL.val rfl (.inl rfl) (HV.mv rfl) ?_
      refine AL.val rfl (.inl rfl) (HV.mv rfl) ?_
      refine AL.val rfl (.inl rfl) (HV.mv rfl) ?_
      refine AL.w rfl (.inl rfl) (WV.call fn50 rfl (dealSh_ok p (hr29.ext X49) (hr38.ext X50) ⟨hP.1, hcb⟩ hpt)) ?_
      rintro _ H54 ⟨⟨v53, rfl, hr56⟩, hx55⟩
      have X57 := Ext.trans X47 hx55
      have X58 := Ext.trans X48 hx55
      have X59 := Ext.trans X49 hx55
      have X60 := Ext.trans X50 hx55
      have X61 := Ext.trans X51 hx55
      have X62 := Ext.refl H54
      have hr63 : RdK (kP kI kI) W H54 _ v53 (dl p cb pts) := hr56.rd
      refine AL.val rfl (.inl rfl) (HV.mv rfl) ?_
      refine AL.val rfl (.inl rfl) (HV.ex rfl rfl) ?_
      refine AL.val rfl (.inl rfl) (HV.ex rfl rfl) ?_
      refine AL.val rfl (.inl rfl) (HV.as rfl) ?_
      refine AL.val rfl (.inl rfl) (HV.as rfl) ?_
      refine AL.nx ?_
      refine AW.rs ?_
      have o64 := X57.bd
      have o65 := X58.bd
      have o66 := X59.bd
      have o67 := X60.bd
      have o68 := X61.bd
      have o69 := X62.bd
      refine AL.w rfl (.inl rfl) (WV.bsK (K := kI) (l := ([0] : List Int)) (css := [[.int .i64 0]]) sl24 rfl rfl (by first | rfl | (simp [Instr.fill, Value.cells, kI, kB, kU, kS, Kd.sc]; done) | (simp [Instr.fill, Value.cells, kI, kB, kU, kS, Kd.sc, rng1, rng2, rng3, rng4, kP])) rfl (segs_cons rfl segs_nil)) ?_
      rintro v70 H71 ⟨hx72, ho73⟩
      have X74 := Ext.trans X57 hx72
      have X75 := Ext.trans X58 hx72
      have X76 := Ext.trans X59 hx72
      have X77 := Ext.trans X60 hx72
      have X78 := Ext.trans X61 hx72
      have X79 := Ext.trans X62 hx72
      refine AL.val rfl (.inl rfl) (HV.mv rfl) ?_
      refine AL.val rfl (.inl rfl) (HV.mv rfl) ?_
      have X81 := Ext.refl H71
      have o82 := X74.bd
      have o83 := X75.bd
      have o84 := X76.bd
      have o85 := X77.bd
      have o86 := X78.bd
      have o87 := X79.bd
      have o88 := X81.bd
      have a89 := ho73.ltb
      refine AL.w rfl (.inl rfl) (WV.call fn51 rfl (p6Res_ok (hr2.ext X74) hby2 p 2 (by omega) (by omega))) ?_
      rintro v90 H91 ⟨⟨R, ho93, h94⟩, hx92⟩
      have X95 := Ext.trans X74 hx92
      have X96 := Ext.trans X75 hx92
      have X97 := Ext.trans X76 hx92
      have X98 := Ext.trans X77 hx92
      have X99 := Ext.trans X78 hx92
      have X100 := Ext.trans X79 hx92
      have X101 := Ext.trans X81 hx92
      have ho102 := ho73.ext hx92
      have hR1 : R.length = 2 := h94.1
      have hR2 := h94.2
      have X104 := Ext.refl H91
      refine AL.w rfl (.inl rfl) (WV.apk sl24 rfl rfl ho102 ho93.rd (by simp; omega) (by simp; omega) (fun b hb _ e => Nat.lt_irrefl _ (Nat.lt_of_lt_of_le (a89 b e) hb))) ?_
      rintro v105 H106 ⟨hx107, ho108, hb109⟩
      have ho110 := ho108.narrow (ok' := fun b => H54.bd ≤ b) kI_flat (fun b q => (hb109 b q).elim (fun e => (ho102.blk b e).1) (fun e => Nat.le_trans X100.bd e))
      have X111 := Ext.thru X95 hx107 (fun b hb => Nat.le_trans o64 (ho102.blk b hb).1)
      have X112 := Ext.thru X96 hx107 (fun b hb => Nat.le_trans o65 (ho102.blk b hb).1)
      have X113 := Ext.thru X97 hx107 (fun b hb => Nat.le_trans o66 (ho102.blk b hb).1)
      have X114 := Ext.thru X98 hx107 (fun b hb => Nat.le_trans o67 (ho102.blk b hb).1)
      have X115 := Ext.thru X99 hx107 (fun b hb => Nat.le_trans o68 (ho102.blk b hb).1)
      have X116 := Ext.thru X100 hx107 (fun b hb => Nat.le_trans o69 (ho102.blk b hb).1)
      refine AL.val rfl (.inl rfl) (HV.as rfl) ?_
      refine AL.nx ?_
      refine AW.rs ?_
      refine AL.val rfl (.inl rfl) (HV.mv rfl) ?_
      obtain ⟨g120, z121, cs122, hz123, hK124, hC125, hg126, hP127⟩ := OwnK.ix (q := 2) ho110 sl24 (by omega) (by simp; omega)
      have X128 := Ext.refl H106
      obtain rfl : cs122 = [.int .i64 z121] := hK124
      refine AL.val rfl (.inl rfl) (hP127 rfl rfl) ?_
      refine AL.w0 (.inl rfl) (WV.stK (okx := fun _ => False) (x' := 1) ho110 hg126 rfl rfl va2 (by simp; omega) rfl (fun _ h => h.elim)) ?_
      rintro _ H129 ⟨hx130, ho131⟩
      have X132 := Ext.thru X111 hx130 (fun b hb => Nat.le_trans o64 (ho110.blk b hb).1)
      have X133 := Ext.thru X112 hx130 (fun b hb => Nat.le_trans o65 (ho110.blk b hb).1)
      have X134 := Ext.thru X113 hx130 (fun b hb => Nat.le_trans o66 (ho110.blk b hb).1)
      have X135 := Ext.thru X114 hx130 (fun b hb => Nat.le_trans o67 (ho110.blk b hb).1)
      have X136 := Ext.thru X115 hx130 (fun b hb => Nat.le_trans o68 (ho110.blk b hb).1)
      have X137 := Ext.thru X116 hx130 (fun b hb => Nat.le_trans o69 (ho110.blk b hb).1)
      have ho139 := ho131.okk (ok' := fun b => H54.bd ≤ b) (fun b hb _ => hb.elim id False.elim)
      refine AL.nx ?_
      refine AW.rs ?_
      have X140 := Ext.refl H129
      obtain ⟨mk, hmk⟩ : ∃ q, q = (((([0] : List Int) : List Int) ++ R).set (2 : Int).toNat 1) := ⟨_, rfl⟩
      have hr141 := ho139.rd
      rw [← hmk] at hr141
      have hmo := mask_ok (by omega) hR1 hR2 hmk
      have hvA : vS p (dl p ca pts) := vS_dl hP.1 hpt
      have hvB : vS p (dl p cb pts) := vS_dl hP.1 hpt
      have hdA := dl_len p ca pts
      have hdB := dl_len p cb pts
      obtain ⟨cm, hcm⟩ : ∃ q, q = addC p 1 ca mk := ⟨_, rfl⟩
      have hrfl : refr p [mk] (dl p ca pts) = dl p cm pts := by rw [hcm]; exact refr_dl hp0 _ _ _
      have hcml : cm.length ≤ 3 := by rw [hcm, addC_length]; omega
      have hall : vS p (dl p ca pts) ∧ allC p [mk] := ⟨hvA, fun j hj => by have : j = 0 := (by simpa using hj); subst this; exact hmo.1⟩
      have hzer : zer [mk] := fun j hj => by have : j = 0 := (by simpa using hj); subst this; exact hmo.2.1
      have hvM : vS p (dl p cm pts) := vS_dl hP.1 hpt
      have hdM := dl_len p cm pts
      have hopM := dl_open hP.1 hpt (show cm.length ≤ pts.length by omega) 0
      have hva := val_in hp0 ca 0
      have hvb := val_in hp0 cb 0
      have hvm0 : val p mk 0 = 0 := by rw [val_zero hmo.1.2.1 hp0]; exact hmo.2.1
      have hcm0 : val p cm 0 = val p ca 0 := by rw [hcm, val_add hp0, hvm0, Int.mul_zero, Int.add_zero, Int.emod_eq_of_lt hva.1 (by omega)]
      obtain ⟨cp, hcp⟩ : ∃ q, q = prd ca cb := ⟨_, rfl⟩
      have hmul : (List.range (dl p ca pts).length).map (mulF p (dl p ca pts) (dl p cb pts)) = dl p cp pts := by rw [hcp]; exact mul_dl hp0 (by omega) (by omega)
      have hvP : vS p (dl p cp pts) := vS_dl hP.1 hpt
      have hdP := dl_len p cp pts
      have hcpl : cp.length = 3 := by rw [hcp]; rfl
      have hopP := dl_open hP.1 hpt (show cp.length ≤ pts.length by omega) 0
      have hcp0 : val p cp 0 = (val p ca 0 * val p cb 0) % p := by rw [hcp]; exact val_prd hp0 (by omega) (by omega) 0
      have hq0 := mul31 (a := val p ca 0) (b := val p cb 0) (by omega) (by omega) (by omega) (by omega)
      have hff : (dl p ca pts).map Prod.fst = (dl p cb pts).map Prod.fst := by rw [dl_fst, dl_fst]
      refine AL.val rfl (.inl rfl) (HV.mv rfl) ?_
      refine AL.val rfl (.inl rfl) (HV.mv rfl) ?_
      refine AL.val rfl (.inl rfl) (HV.mv rfl) ?_
      have o142 := X132.bd
      have o143 := X133.bd
      have o144 := X134.bd
      have o145 := X135.bd
      have o146 := X136.bd
      have o147 := X137.bd
      have o148 := X140.bd
      have hr153 := (hr141).okk (ok' := fun _ => True) (fun _ _ _ => trivial)
      have hc154 : v105.cells = #[v105] := by obtain ⟨A, c, e⟩ := hr153.isSl; rw [e]; rfl
      refine AL.w rfl (.inl rfl) (WV.bsO (okx := fun _ => True) (K := (kR kI)) (l := ([mk] : List (List Int))) (css := [[v105]]) sl36 rfl rfl (by simp [Instr.fill, hc154, kR, rng1]) rfl (segs_cons ⟨_, rfl, hr153⟩ segs_nil)) ?_
      rintro v149 H150 ⟨hx151, ho152⟩
      have X156 := Ext.trans X132 hx151
      have X157 := Ext.trans X133 hx151
      have X158 := Ext.trans X134 hx151
      have X159 := Ext.trans X135 hx151
      have X160 := Ext.trans X136 hx151
      have X161 := Ext.trans X137 hx151
      have X162 := Ext.trans X140 hx151
      have X163 := Ext.refl H150
      have hr155 := ho152.rd
      refine AL.w rfl (.inl rfl) (WV.call fn29 rfl (implRf0 p (hr52.ext X160) hr155 hall hzer (by omega))) ?_
      rintro _ H165 ⟨⟨v164, rfl, hr167⟩, hx166⟩
      have X168 := Ext.trans X156 hx166
      have X169 := Ext.trans X157 hx166
      have X170 := Ext.trans X158 hx166
      have X171 := Ext.trans X159 hx166
      have X172 := Ext.trans X160 hx166
      have X173 := Ext.trans X161 hx166
      have X174 := Ext.trans X162 hx166
      have X175 := Ext.trans X163 hx166
      have X176 := Ext.refl H165
      have hr177 := hr167.rd
      rw [hrfl] at hr177
      refine AL.val rfl (.inl rfl) (HV.mv rfl) ?_
      refine AL.val rfl (.inl rfl) (HV.ex rfl rfl) ?_
      refine AL.val rfl (.inl rfl) (HV.ex rfl rfl) ?_
      refine AL.val rfl (.inl rfl) (HV.as rfl) ?_
      refine AL.val rfl (.inl rfl) (HV.as rfl) ?_
      refine AL.nx ?_
      refine AW.rs ?_
      refine AL.val rfl (.inl rfl) (HV.mv rfl) ?_
      refine AL.val rfl (.inl rfl) (HV.mv rfl) ?_
      refine AL.val rfl (.inl rfl) (HV.mv rfl) ?_
      have o178 := X168.bd
      have o179 := X169.bd
      have o180 := X170.bd
      have o181 := X171.bd
      have o182 := X172.bd
      have o183 := X173.bd
      have o184 := X174.bd
      have o185 := X175.bd
      have o186 := X176.bd
      have hr191 := ((hr141.ext X174)).okk (ok' := fun _ => True) (fun _ _ _ => trivial)
      have hc192 : v105.cells = #[v105] := by obtain ⟨A, c, e⟩ := hr191.isSl; rw [e]; rfl
      refine AL.w rfl (.inl rfl) (WV.bsO (okx := fun _ => True) (K := (kR kI)) (l := ([mk] : List (List Int))) (css := [[v105]]) sl36 rfl rfl (by simp [Instr.fill, hc192, kR, rng1]) rfl (segs_cons ⟨_, rfl, hr191⟩ segs_nil)) ?_
      rintro v187 H188 ⟨hx189, ho190⟩
      have X194 := Ext.trans X168 hx189
      have X195 := Ext.trans X169 hx189
      have X196 := Ext.trans X170 hx189
      have X197 := Ext.trans X171 hx189
      have X198 := Ext.trans X172 hx189
      have X199 := Ext.trans X173 hx189
      have X200 := Ext.trans X174 hx189
      have X201 := Ext.trans X175 hx189
      have X202 := Ext.trans X176 hx189
      have X203 := Ext.refl H188
      have hr193 := ho190.rd
      refine AL.w rfl (.inl rfl) (WV.call fn27 rfl (specRf0 p (hr52.ext X198) hr193 hall hzer (by omega))) ?_
      rintro _ H205 ⟨⟨v204, rfl, hr207⟩, hx206⟩
      have X208 := Ext.trans X194 hx206
      have X209 := Ext.trans X195 hx206
      have X210 := Ext.trans X196 hx206
      have X211 := Ext.trans X197 hx206
      have X212 := Ext.trans X198 hx206
      have X213 := Ext.trans X199 hx206
      have X214 := Ext.trans X200 hx206
      have X215 := Ext.trans X201 hx206
      have X216 := Ext.trans X202 hx206
      have X217 := Ext.trans X203 hx206
      have X218 := Ext.refl H205
      have hr219 := hr207.rd
      rw [hrfl] at hr219
      refine AL.val rfl (.inl rfl) (HV.mv rfl) ?_
      refine AL.val rfl (.inl rfl) (HV.ex rfl rfl) ?_
      refine AL.val rfl (.inl rfl) (HV.ex rfl rfl) ?_
      refine AL.val rfl (.inl rfl) (HV.as rfl) ?_
      refine AL.val rfl (.inl rfl) (HV.as rfl) ?_
      refine AL.nx ?_
      refine AW.seq ?_
      refine AW.rs ?_
      refine AL.val rfl (.inl rfl) (HV.mv rfl) ?_
      refine AL.val rfl (.inl rfl) (HV.nei rfl rfl) ?_
      refine AL.val rfl (.inl rfl) (HV.mv rfl) ?_
      by_cases c220 : (0 : Int) ≠ 0
      · -- true
        have c220_ : decide ((0 : Int) ≠ 0) = true := decide_eq_true c220
        rw [c220_]
        refine AL.off rfl rfl (by decide) rfl ?_
        refine AL.off rfl rfl (by decide) rfl ?_
        refine AL.val rfl (.inl rfl) (HV.pickT rfl rfl) ?_
        refine AL.val rfl (.inl rfl) (HV.mv rfl) ?_
        refine AL.off rfl rfl (by decide) rfl ?_
        refine AL.off rfl rfl (by decide) rfl ?_
        refine AL.off rfl rfl (by decide) rfl ?_
        refine AL.val rfl (.inl rfl) (HV.pickT rfl rfl) ?_
        refine AL.val rfl (.inl rfl) (HV.mv rfl) ?_
        refine AL.off rfl rfl (by decide) rfl ?_
        refine AL.off rfl rfl (by decide) rfl ?_
        refine AL.val rfl (.inl rfl) (HV.pickT rfl rfl) ?_
        refine AL.val rfl (.inl rfl) (HV.mv rfl) ?_
        refine AL.off rfl rfl (by decide) rfl ?_
        refine AL.off rfl rfl (by decide) rfl ?_
        refine AL.off rfl rfl (by decide) rfl ?_
        refine AL.off rfl rfl (by decide) rfl ?_
        refine AL.val rfl (.inl rfl) (HV.pickT rfl rfl) ?_
        refine AL.nx ?_
        refine AW.cond rfl (fun _ => ?_) (fun h => by cases h)
        refine AW.rs ?_
        refine AL.val rfl (.inl rfl) (HV.as rfl) ?_
        refine AL.nx ?_
        refine AW.ret ?_
        refine ret_and ?_
        refine post_one rfl rfl ?_ (.inr rfl)
        exfalso; first | omega | exact c220 rfl
      · -- false
        have c220_ : decide ((0 : Int) ≠ 0) = false := decide_eq_false c220
        rw [c220_]
        refine AL.val rfl (.inr ⟨_, _, _, rfl, rfl, rfl⟩) (HV.mv rfl) ?_
        refine AL.val rfl (.inr ⟨_, _, _, rfl, rfl, rfl⟩) (HV.nei rfl rfl) ?_
        refine AL.val rfl (.inl rfl) (HV.pickF rfl rfl) ?_
        refine AL.val rfl (.inl rfl) (HV.mv rfl) ?_
        by_cases c222 : (0 : Int) ≠ 0
        · -- true
          have c222_ : decide ((0 : Int) ≠ 0) = true := decide_eq_true c222
          rw [c222_]
          refine AL.off rfl rfl (by decide) rfl ?_
          refine AL.off rfl rfl (by decide) rfl ?_
          refine AL.off rfl rfl (by decide) rfl ?_
          refine AL.val rfl (.inl rfl) (HV.pickT rfl rfl) ?_
          refine AL.val rfl (.inl rfl) (HV.mv rfl) ?_
          refine AL.off rfl rfl (by decide) rfl ?_
          refine AL.off rfl rfl (by decide) rfl ?_
          refine AL.val rfl (.inl rfl) (HV.pickT rfl rfl) ?_
          refine AL.val rfl (.inl rfl) (HV.mv rfl) ?_
          refine AL.off rfl rfl (by decide) rfl ?_
          refine AL.off rfl rfl (by decide) rfl ?_
          refine AL.off rfl rfl (by decide) rfl ?_
          refine AL.off rfl rfl (by decide) rfl ?_
          refine AL.val rfl (.inl rfl) (HV.pickT rfl rfl) ?_
          refine AL.nx ?_
          refine AW.cond rfl (fun _ => ?_) (fun h => by cases h)
          refine AW.rs ?_
          refine AL.val rfl (.inl rfl) (HV.as rfl) ?_
          refine AL.nx ?_
          refine AW.ret ?_
          refine ret_and ?_
          refine post_one rfl rfl ?_ (.inr rfl)
          exfalso; first | omega | exact c222 rfl
        · -- false
          have c222_ : decide ((0 : Int) ≠ 0) = false := decide_eq_false c222
          rw [c222_]
          refine AL.val rfl (.inr ⟨_, _, _, rfl, rfl, rfl⟩) (HV.mv rfl) ?_
          refine AL.val rfl (.inr ⟨_, _, _, rfl, rfl, rfl⟩) (HV.mv rfl) ?_
          refine AL.val rfl (.inr ⟨_, _, _, rfl, rfl, rfl⟩) (HV.nei rfl rfl) ?_
          refine AL.val rfl (.inl rfl) (HV.pickF rfl rfl) ?_
          refine AL.val rfl (.inl rfl) (HV.mv rfl) ?_
          by_cases c224 : (0 : Int) ≠ 0
          · -- true
            have c224_ : decide ((0 : Int) ≠ 0) = true := decide_eq_true c224
            rw [c224_]
            refine AL.off rfl rfl (by decide) rfl ?_
            refine AL.off rfl rfl (by decide) rfl ?_
            refine AL.val rfl (.inl rfl) (HV.pickT rfl rfl) ?_
            refine AL.val rfl (.inl rfl) (HV.mv rfl) ?_
            refine AL.off rfl rfl (by decide) rfl ?_
            refine AL.off rfl rfl (by decide) rfl ?_
            refine AL.off rfl rfl (by decide) rfl ?_
            refine AL.off rfl rfl (by decide) rfl ?_
            refine AL.val rfl (.inl rfl) (HV.pickT rfl rfl) ?_
            refine AL.nx ?_
            refine AW.cond rfl (fun _ => ?_) (fun h => by cases h)
            refine AW.rs ?_
            refine AL.val rfl (.inl rfl) (HV.as rfl) ?_
            refine AL.nx ?_
            refine AW.ret ?_
            refine ret_and ?_
            refine post_one rfl rfl ?_ (.inr rfl)
            exfalso; first | omega | exact c224 rfl
          · -- false
            have c224_ : decide ((0 : Int) ≠ 0) = false := decide_eq_false c224
            rw [c224_]
            refine AL.val rfl (.inr ⟨_, _, _, rfl, rfl, rfl⟩) (HV.mv rfl) ?_
            refine AL.val rfl (.inr ⟨_, _, _, rfl, rfl, rfl⟩) (HV.nei rfl rfl) ?_
            refine AL.val rfl (.inl rfl) (HV.pickF rfl rfl) ?_
            refine AL.val rfl (.inl rfl) (HV.mv rfl) ?_
            by_cases c226 : (0 : Int) ≠ 0
            · -- true
              have c226_ : decide ((0 : Int) ≠ 0) = true := decide_eq_true c226
              rw [c226_]
              refine AL.off rfl rfl (by decide) rfl ?_
              refine AL.off rfl rfl (by decide) rfl ?_
              refine AL.off rfl rfl (by decide) rfl ?_
              refine AL.off rfl rfl (by decide) rfl ?_
              refine AL.val rfl (.inl rfl) (HV.pickT rfl rfl) ?_
              refine AL.nx ?_
              refine AW.cond rfl (fun _ => ?_) (fun h => by cases h)
              refine AW.rs ?_
              refine AL.val rfl (.inl rfl) (HV.as rfl) ?_
              refine AL.nx ?_
              refine AW.ret ?_
              refine ret_and ?_
              refine post_one rfl rfl ?_ (.inr rfl)
              exfalso; first | omega | exact c226 rfl
            · -- false
              have c226_ : decide ((0 : Int) ≠ 0) = false := decide_eq_false c226
              rw [c226_]
              refine AL.val rfl (.inr ⟨_, _, _, rfl, rfl, rfl⟩) (HV.mv rfl) ?_
              refine AL.val rfl (.inr ⟨_, _, _, rfl, rfl, rfl⟩) (HV.mv rfl) ?_
              refine AL.w rfl (.inr ⟨_, _, _, rfl, rfl, rfl⟩) (WV.call fn61 rfl (f6sh_ok (hr177.ext X216) hr219)) ?_
              rintro _ H228 ⟨rfl, hx229⟩
              have X230 := Ext.trans X208 hx229
              have X231 := Ext.trans X209 hx229
              have X232 := Ext.trans X210 hx229
              have X233 := Ext.trans X211 hx229
              have X234 := Ext.trans X212 hx229
              have X235 := Ext.trans X213 hx229
              have X236 := Ext.trans X214 hx229
              have X237 := Ext.trans X215 hx229
              have X238 := Ext.trans X216 hx229
              have X239 := Ext.trans X217 hx229
              have X240 := Ext.trans X218 hx229
              refine AL.val rfl (.inr ⟨_, _, _, rfl, rfl, rfl⟩) (HV.not rfl) ?_
              refine AL.val rfl (.inl rfl) (HV.pickF rfl rfl) ?_
              refine AL.nx ?_
              refine AW.ifn rfl (fun c241 => ?_) (fun c241 => ?_)
              · -- then
                refine AW.rs ?_
                refine AL.val rfl (.inl rfl) (HV.as rfl) ?_
                refine AL.nx ?_
                refine AW.ret ?_
                refine ret_and ?_
                refine post_one rfl rfl ?_ (.inr rfl)
                exfalso; first | omega | exact c241 rfl
              · -- else
                refine AW.skip ?_
                refine nrm_and ?_
                refine AW.rs ?_
                refine AL.val rfl (.inl rfl) (HV.mv rfl) ?_
                refine AL.val rfl (.inl rfl) (HV.mv rfl) ?_
                refine AL.w rfl (.inl rfl) (WV.call fn48 rfl (cuAt_ok p (hr21.ext X231) 0 ⟨hP.1, hca⟩ (by omega))) ?_
                rintro _ H242 ⟨rfl, hx243⟩
                have X244 := Ext.trans X230 hx243
                have X245 := Ext.trans X231 hx243
                have X246 := Ext.trans X232 hx243
                have X247 := Ext.trans X233 hx243
                have X248 := Ext.trans X234 hx243
                have X249 := Ext.trans X235 hx243
                have X250 := Ext.trans X236 hx243
                have X251 := Ext.trans X237 hx243
                have X252 := Ext.trans X238 hx243
                have X253 := Ext.trans X239 hx243
                have X254 := Ext.trans X240 hx243
                refine AL.val rfl (.inl rfl) (HV.mv rfl) ?_
                refine AL.val rfl (.inl rfl) (HV.ex rfl rfl) ?_
                refine AL.val rfl (.inl rfl) (HV.ex rfl rfl) ?_
                refine AL.val rfl (.inl rfl) (HV.as rfl) ?_
                refine AL.val rfl (.inl rfl) (HV.as rfl) ?_
                refine AL.nx ?_
                refine AW.rs ?_
                refine AL.val rfl (.inl rfl) (HV.mv rfl) ?_
                refine AL.val rfl (.inl rfl) (HV.mv rfl) ?_
                refine AL.w rfl (.inl rfl) (WV.call fn48 rfl (cuAt_ok p (hr29.ext X246) 0 ⟨hP.1, hcb⟩ (by omega))) ?_
                rintro _ H255 ⟨rfl, hx256⟩
                have X257 := Ext.trans X244 hx256
                have X258 := Ext.trans X245 hx256
                have X259 := Ext.trans X246 hx256
                have X260 := Ext.trans X247 hx256
                have X261 := Ext.trans X248 hx256
                have X262 := Ext.trans X249 hx256
                have X263 := Ext.trans X250 hx256
                have X264 := Ext.trans X251 hx256
                have X265 := Ext.trans X252 hx256
                have X266 := Ext.trans X253 hx256
                have X267 := Ext.trans X254 hx256
                refine AL.val rfl (.inl rfl) (HV.mv rfl) ?_
                refine AL.val rfl (.inl rfl) (HV.ex rfl rfl) ?_
                refine AL.val rfl (.inl rfl) (HV.ex rfl rfl) ?_
                refine AL.val rfl (.inl rfl) (HV.as rfl) ?_
                refine AL.val rfl (.inl rfl) (HV.as rfl) ?_
                refine AL.nx ?_
                refine AW.rs ?_
                refine AL.val rfl (.inl rfl) (HV.mv rfl) ?_
                refine AL.val rfl (.inl rfl) (HV.mv rfl) ?_
                refine AL.w rfl (.inl rfl) (WV.call fn63 rfl (openA_ok (hr219.ext X267) hvM 0 (by omega))) ?_
                rintro _ H268 ⟨rfl, hx269⟩
                have X270 := Ext.trans X257 hx269
                have X271 := Ext.trans X258 hx269
                have X272 := Ext.trans X259 hx269
                have X273 := Ext.trans X260 hx269
                have X274 := Ext.trans X261 hx269
                have X275 := Ext.trans X262 hx269
                have X276 := Ext.trans X263 hx269
                have X277 := Ext.trans X264 hx269
                have X278 := Ext.trans X265 hx269
                have X279 := Ext.trans X266 hx269
                have X280 := Ext.trans X267 hx269
                refine AL.val rfl (.inl rfl) (HV.mv rfl) ?_
                refine AL.val rfl (.inl rfl) (HV.ex rfl rfl) ?_
                refine AL.val rfl (.inl rfl) (HV.ex rfl rfl) ?_
                refine AL.val rfl (.inl rfl) (HV.as rfl) ?_
                refine AL.val rfl (.inl rfl) (HV.as rfl) ?_
                refine AL.nx ?_
                refine AW.rs ?_
                refine AL.val rfl (.inl rfl) (HV.mv rfl) ?_
                refine AL.val rfl (.inl rfl) (HV.mv rfl) ?_
                refine AL.val rfl (.inl rfl) (HV.mv rfl) ?_
                refine AL.w rfl (.inl rfl) (WV.call fn65 rfl (implMl_ok (hr52.ext X274) (hr63.ext X275) hvA hvB hff)) ?_
                rintro _ H286 ⟨⟨v285, rfl, hr288⟩, hx287⟩
                have X289 := Ext.trans X270 hx287
                have X290 := Ext.trans X271 hx287
                have X291 := Ext.trans X272 hx287
                have X292 := Ext.trans X273 hx287
                have X293 := Ext.trans X274 hx287
                have X294 := Ext.trans X275 hx287
                have X295 := Ext.trans X276 hx287
                have X296 := Ext.trans X277 hx287
                have X297 := Ext.trans X278 hx287
                have X298 := Ext.trans X279 hx287
                have X299 := Ext.trans X280 hx287
                have X300 := Ext.refl H286
                have hr301 := hr288.rd
                rw [hmul] at hr301
                refine AL.val rfl (.inl rfl) (HV.mv rfl) ?_
                refine AL.val rfl (.inl rfl) (HV.ex rfl rfl) ?_
                refine AL.val rfl (.inl rfl) (HV.ex rfl rfl) ?_
                refine AL.val rfl (.inl rfl) (HV.as rfl) ?_
                refine AL.val rfl (.inl rfl) (HV.as rfl) ?_
                refine AL.nx ?_
                refine AW.rs ?_
                refine AL.val rfl (.inl rfl) (HV.mv rfl) ?_
                refine AL.val rfl (.inl rfl) (HV.mv rfl) ?_
                refine AL.val rfl (.inl rfl) (HV.mv rfl) ?_
                refine AL.w rfl (.inl rfl) (WV.call fn66 rfl (specMl_ok (hr52.ext X293) (hr63.ext X294) hvA hvB hff)) ?_
                rintro _ H303 ⟨⟨v302, rfl, hr305⟩, hx304⟩
                have X306 := Ext.trans X289 hx304
                have X307 := Ext.trans X290 hx304
                have X308 := Ext.trans X291 hx304
                have X309 := Ext.trans X292 hx304
                have X310 := Ext.trans X293 hx304
                have X311 := Ext.trans X294 hx304
                have X312 := Ext.trans X295 hx304
                have X313 := Ext.trans X296 hx304
                have X314 := Ext.trans X297 hx304
                have X315 := Ext.trans X298 hx304
                have X316 := Ext.trans X299 hx304
                have X317 := Ext.trans X300 hx304
                have X318 := Ext.refl H303
                have hr319 := hr305.rd
                rw [hmul] at hr319
                refine AL.val rfl (.inl rfl) (HV.mv rfl) ?_
                refine AL.val rfl (.inl rfl) (HV.ex rfl rfl) ?_
                refine AL.val rfl (.inl rfl) (HV.ex rfl rfl) ?_
                refine AL.val rfl (.inl rfl) (HV.as rfl) ?_
                refine AL.val rfl (.inl rfl) (HV.as rfl) ?_
                refine AL.nx ?_
                refine AW.seq ?_
                refine AW.rs ?_
                refine AL.val rfl (.inl rfl) (HV.mv rfl) ?_
                refine AL.val rfl (.inl rfl) (HV.nei rfl rfl) ?_
                refine AL.val rfl (.inl rfl) (HV.mv rfl) ?_
                by_cases c320 : (0 : Int) ≠ 0
                · -- true
                  have c320_ : decide ((0 : Int) ≠ 0) = true := decide_eq_true c320
                  rw [c320_]
                  refine AL.off rfl rfl (by decide) rfl ?_
                  refine AL.off rfl rfl (by decide) rfl ?_
                  refine AL.val rfl (.inl rfl) (HV.pickT rfl rfl) ?_
                  refine AL.val rfl (.inl rfl) (HV.mv rfl) ?_
                  refine AL.off rfl rfl (by decide) rfl ?_
                  refine AL.off rfl rfl (by decide) rfl ?_
                  refine AL.val rfl (.inl rfl) (HV.pickT rfl rfl) ?_
                  refine AL.val rfl (.inl rfl) (HV.mv rfl) ?_
                  refine AL.off rfl rfl (by decide) rfl ?_
                  refine AL.off rfl rfl (by decide) rfl ?_
                  refine AL.off rfl rfl (by decide) rfl ?_
                  refine AL.val rfl (.inl rfl) (HV.pickT rfl rfl) ?_
                  refine AL.val rfl (.inl rfl) (HV.mv rfl) ?_
                  refine AL.off rfl rfl (by decide) rfl ?_
                  refine AL.off rfl rfl (by decide) rfl ?_
                  refine AL.off rfl rfl (by decide) rfl ?_
                  refine AL.val rfl (.inl rfl) (HV.pickT rfl rfl) ?_
                  refine AL.val rfl (.inl rfl) (HV.mv rfl) ?_
                  refine AL.off rfl rfl (by decide) rfl ?_
                  refine AL.off rfl rfl (by decide) rfl ?_
                  refine AL.val rfl (.inl rfl) (HV.pickT rfl rfl) ?_
                  refine AL.val rfl (.inl rfl) (HV.mv rfl) ?_
                  refine AL.off rfl rfl (by decide) rfl ?_
                  refine AL.off rfl rfl (by decide) rfl ?_
                  refine AL.off rfl rfl (by decide) rfl ?_
                  refine AL.off rfl rfl (by decide) rfl ?_
                  refine AL.val rfl (.inl rfl) (HV.pickT rfl rfl) ?_
                  refine AL.nx ?_
                  refine AW.cond rfl (fun _ => ?_) (fun h => by cases h)
                  refine AW.rs ?_
                  refine AL.val rfl (.inl rfl) (HV.as rfl) ?_
                  refine AL.nx ?_
                  refine AW.ret ?_
                  refine ret_and ?_
                  refine post_one rfl rfl ?_ (.inr rfl)
                  exfalso; first | omega | exact c320 rfl
                · -- false
                  have c320_ : decide ((0 : Int) ≠ 0) = false := decide_eq_false c320
                  rw [c320_]
                  refine AL.val rfl (.inr ⟨_, _, _, rfl, rfl, rfl⟩) (HV.mv rfl) ?_
                  refine AL.val rfl (.inr ⟨_, _, _, rfl, rfl, rfl⟩) (HV.nei rfl rfl) ?_
                  refine AL.val rfl (.inl rfl) (HV.pickF rfl rfl) ?_
                  refine AL.val rfl (.inl rfl) (HV.mv rfl) ?_
                  by_cases c322 : (0 : Int) ≠ 0
                  · -- true
                    have c322_ : decide ((0 : Int) ≠ 0) = true := decide_eq_true c322
                    rw [c322_]
                    refine AL.off rfl rfl (by decide) rfl ?_
                    refine AL.off rfl rfl (by decide) rfl ?_
                    refine AL.val rfl (.inl rfl) (HV.pickT rfl rfl) ?_
                    refine AL.val rfl (.inl rfl) (HV.mv rfl) ?_
                    refine AL.off rfl rfl (by decide) rfl ?_
                    refine AL.off rfl rfl (by decide) rfl ?_
                    refine AL.off rfl rfl (by decide) rfl ?_
                    refine AL.val rfl (.inl rfl) (HV.pickT rfl rfl) ?_
                    refine AL.val rfl (.inl rfl) (HV.mv rfl) ?_
                    refine AL.off rfl rfl (by decide) rfl ?_
                    refine AL.off rfl rfl (by decide) rfl ?_
                    refine AL.off rfl rfl (by decide) rfl ?_
                    refine AL.val rfl (.inl rfl) (HV.pickT rfl rfl) ?_
                    refine AL.val rfl (.inl rfl) (HV.mv rfl) ?_
                    refine AL.off rfl rfl (by decide) rfl ?_
                    refine AL.off rfl rfl (by decide) rfl ?_
                    refine AL.val rfl (.inl rfl) (HV.pickT rfl rfl) ?_
                    refine AL.val rfl (.inl rfl) (HV.mv rfl) ?_
                    refine AL.off rfl rfl (by decide) rfl ?_
                    refine AL.off rfl rfl (by decide) rfl ?_
                    refine AL.off rfl rfl (by decide) rfl ?_
                    refine AL.off rfl rfl (by decide) rfl ?_
                    refine AL.val rfl (.inl rfl) (HV.pickT rfl rfl) ?_
                    refine AL.nx ?_
                    refine AW.cond rfl (fun _ => ?_) (fun h => by cases h)
                    refine AW.rs ?_
                    refine AL.val rfl (.inl rfl) (HV.as rfl) ?_
                    refine AL.nx ?_
                    refine AW.ret ?_
                    refine ret_and ?_
                    refine post_one rfl rfl ?_ (.inr rfl)
                    exfalso; first | omega | exact c322 rfl
                  · -- false
                    have c322_ : decide ((0 : Int) ≠ 0) = false := decide_eq_false c322
                    rw [c322_]
                    refine AL.val rfl (.inr ⟨_, _, _, rfl, rfl, rfl⟩) (HV.mv rfl) ?_
                    refine AL.val rfl (.inr ⟨_, _, _, rfl, rfl, rfl⟩) (HV.nei rfl rfl) ?_
                    refine AL.val rfl (.inl rfl) (HV.pickF rfl rfl) ?_
                    refine AL.val rfl (.inl rfl) (HV.mv rfl) ?_
                    by_cases c324 : (if ((dl p cm pts).length : Int) = 0 then (4 : Int) else 0) ≠ 0
                    · -- true
                      have c324_ : decide ((if ((dl p cm pts).length : Int) = 0 then (4 : Int) else 0) ≠ 0) = true := decide_eq_true c324
                      rw [c324_]
                      refine AL.off rfl rfl (by decide) rfl ?_
                      refine AL.off rfl rfl (by decide) rfl ?_
                      refine AL.off rfl rfl (by decide) rfl ?_
                      refine AL.val rfl (.inl rfl) (HV.pickT rfl rfl) ?_
                      refine AL.val rfl (.inl rfl) (HV.mv rfl) ?_
                      refine AL.off rfl rfl (by decide) rfl ?_
                      refine AL.off rfl rfl (by decide) rfl ?_
                      refine AL.off rfl rfl (by decide) rfl ?_
                      refine AL.val rfl (.inl rfl) (HV.pickT rfl rfl) ?_
                      refine AL.val rfl (.inl rfl) (HV.mv rfl) ?_
                      refine AL.off rfl rfl (by decide) rfl ?_
                      refine AL.off rfl rfl (by decide) rfl ?_
                      refine AL.val rfl (.inl rfl) (HV.pickT rfl rfl) ?_
                      refine AL.val rfl (.inl rfl) (HV.mv rfl) ?_
                      refine AL.off rfl rfl (by decide) rfl ?_
                      refine AL.off rfl rfl (by decide) rfl ?_
                      refine AL.off rfl rfl (by decide) rfl ?_
                      refine AL.off rfl rfl (by decide) rfl ?_
                      refine AL.val rfl (.inl rfl) (HV.pickT rfl rfl) ?_
                      refine AL.nx ?_
                      refine AW.cond rfl (fun _ => ?_) (fun h => by cases h)
                      refine AW.rs ?_
                      refine AL.val rfl (.inl rfl) (HV.as rfl) ?_
                      refine AL.nx ?_
                      refine AW.ret ?_
                      refine ret_and ?_
                      refine post_one rfl rfl ?_ (.inr rfl)
                      exfalso; first | omega | exact c324 rfl
                    · -- false
                      have c324_ : decide ((if ((dl p cm pts).length : Int) = 0 then (4 : Int) else 0) ≠ 0) = false := decide_eq_false c324
                      rw [c324_]
                      refine AL.val rfl (.inr ⟨_, _, _, rfl, rfl, rfl⟩) (HV.mv rfl) ?_
                      refine AL.val rfl (.inr ⟨_, _, _, rfl, rfl, rfl⟩) (HV.mv rfl) ?_
                      refine AL.val rfl (.inr ⟨_, _, _, rfl, rfl, rfl⟩) (HV.nei rfl rfl) ?_
                      refine AL.val rfl (.inl rfl) (HV.pickF rfl rfl) ?_
                      refine AL.val rfl (.inl rfl) (HV.mv rfl) ?_
                      by_cases c326 : (if ((dl p cm pts).length : Int) = 0 then (0 : Int) else opV p (dl p cm pts) 0) ≠ (val p ca 0)
                      · -- true
                        have c326_ : decide ((if ((dl p cm pts).length : Int) = 0 then (0 : Int) else opV p (dl p cm pts) 0) ≠ (val p ca 0)) = true := decide_eq_true c326
                        rw [c326_]
                        refine AL.off rfl rfl (by decide) rfl ?_
                        refine AL.off rfl rfl (by decide) rfl ?_
                        refine AL.off rfl rfl (by decide) rfl ?_
                        refine AL.val rfl (.inl rfl) (HV.pickT rfl rfl) ?_
                        refine AL.val rfl (.inl rfl) (HV.mv rfl) ?_
                        refine AL.off rfl rfl (by decide) rfl ?_
                        refine AL.off rfl rfl (by decide) rfl ?_
                        refine AL.val rfl (.inl rfl) (HV.pickT rfl rfl) ?_
                        refine AL.val rfl (.inl rfl) (HV.mv rfl) ?_
                        refine AL.off rfl rfl (by decide) rfl ?_
                        refine AL.off rfl rfl (by decide) rfl ?_
                        refine AL.off rfl rfl (by decide) rfl ?_
                        refine AL.off rfl rfl (by decide) rfl ?_
                        refine AL.val rfl (.inl rfl) (HV.pickT rfl rfl) ?_
                        refine AL.nx ?_
                        refine AW.cond rfl (fun _ => ?_) (fun h => by cases h)
                        refine AW.rs ?_
                        refine AL.val rfl (.inl rfl) (HV.as rfl) ?_
                        refine AL.nx ?_
                        refine AW.ret ?_
                        refine ret_and ?_
                        refine post_one rfl rfl ?_ (.inr rfl)
                        exfalso; first | omega | exact c326 rfl
                      · -- false
                        have c326_ : decide ((if ((dl p cm pts).length : Int) = 0 then (0 : Int) else opV p (dl p cm pts) 0) ≠ (val p ca 0)) = false := decide_eq_false c326
                        rw [c326_]
                        refine AL.val rfl (.inr ⟨_, _, _, rfl, rfl, rfl⟩) (HV.mv rfl) ?_
                        refine AL.val rfl (.inr ⟨_, _, _, rfl, rfl, rfl⟩) (HV.mv rfl) ?_
                        refine AL.val rfl (.inr ⟨_, _, _, rfl, rfl, rfl⟩) (HV.nei rfl rfl) ?_
                        refine AL.val rfl (.inl rfl) (HV.pickF rfl rfl) ?_
                        refine AL.val rfl (.inl rfl) (HV.mv rfl) ?_
                        by_cases c328 : (0 : Int) ≠ 0
                        · -- true
                          have c328_ : decide ((0 : Int) ≠ 0) = true := decide_eq_true c328
                          rw [c328_]
                          refine AL.off rfl rfl (by decide) rfl ?_
                          refine AL.off rfl rfl (by decide) rfl ?_
                          refine AL.val rfl (.inl rfl) (HV.pickT rfl rfl) ?_
                          refine AL.val rfl (.inl rfl) (HV.mv rfl) ?_
                          refine AL.off rfl rfl (by decide) rfl ?_
                          refine AL.off rfl rfl (by decide) rfl ?_
                          refine AL.off rfl rfl (by decide) rfl ?_
                          refine AL.off rfl rfl (by decide) rfl ?_
                          refine AL.val rfl (.inl rfl) (HV.pickT rfl rfl) ?_
                          refine AL.nx ?_
                          refine AW.cond rfl (fun _ => ?_) (fun h => by cases h)
                          refine AW.rs ?_
                          refine AL.val rfl (.inl rfl) (HV.as rfl) ?_
                          refine AL.nx ?_
                          refine AW.ret ?_
                          refine ret_and ?_
                          refine post_one rfl rfl ?_ (.inr rfl)
                          exfalso; first | omega | exact c328 rfl
                        · -- false
                          have c328_ : decide ((0 : Int) ≠ 0) = false := decide_eq_false c328
                          rw [c328_]
                          refine AL.val rfl (.inr ⟨_, _, _, rfl, rfl, rfl⟩) (HV.mv rfl) ?_
                          refine AL.val rfl (.inr ⟨_, _, _, rfl, rfl, rfl⟩) (HV.nei rfl rfl) ?_
                          refine AL.val rfl (.inl rfl) (HV.pickF rfl rfl) ?_
                          refine AL.val rfl (.inl rfl) (HV.mv rfl) ?_
                          by_cases c330 : (0 : Int) ≠ 0
                          · -- true
                            have c330_ : decide ((0 : Int) ≠ 0) = true := decide_eq_true c330
                            rw [c330_]
                            refine AL.off rfl rfl (by decide) rfl ?_
                            refine AL.off rfl rfl (by decide) rfl ?_
                            refine AL.off rfl rfl (by decide) rfl ?_
                            refine AL.off rfl rfl (by decide) rfl ?_
                            refine AL.val rfl (.inl rfl) (HV.pickT rfl rfl) ?_
                            refine AL.nx ?_
                            refine AW.cond rfl (fun _ => ?_) (fun h => by cases h)
                            refine AW.rs ?_
                            refine AL.val rfl (.inl rfl) (HV.as rfl) ?_
                            refine AL.nx ?_
                            refine AW.ret ?_
                            refine ret_and ?_
                            refine post_one rfl rfl ?_ (.inr rfl)
                            exfalso; first | omega | exact c330 rfl
                          · -- false
                            have c330_ : decide ((0 : Int) ≠ 0) = false := decide_eq_false c330
                            rw [c330_]
                            refine AL.val rfl (.inr ⟨_, _, _, rfl, rfl, rfl⟩) (HV.mv rfl) ?_
                            refine AL.val rfl (.inr ⟨_, _, _, rfl, rfl, rfl⟩) (HV.mv rfl) ?_
                            refine AL.w rfl (.inr ⟨_, _, _, rfl, rfl, rfl⟩) (WV.call fn61 rfl (f6sh_ok (hr301.ext X317) hr319)) ?_
                            rintro _ H332 ⟨rfl, hx333⟩
                            have X334 := Ext.trans X306 hx333
                            have X335 := Ext.trans X307 hx333
                            have X336 := Ext.trans X308 hx333
                            have X337 := Ext.trans X309 hx333
                            have X338 := Ext.trans X310 hx333
                            have X339 := Ext.trans X311 hx333
                            have X340 := Ext.trans X312 hx333
                            have X341 := Ext.trans X313 hx333
                            have X342 := Ext.trans X314 hx333
                            have X343 := Ext.trans X315 hx333
                            have X344 := Ext.trans X316 hx333
                            have X345 := Ext.trans X317 hx333
                            have X346 := Ext.trans X318 hx333
                            refine AL.val rfl (.inr ⟨_, _, _, rfl, rfl, rfl⟩) (HV.not rfl) ?_
                            refine AL.val rfl (.inl rfl) (HV.pickF rfl rfl) ?_
                            refine AL.nx ?_
                            refine AW.ifn rfl (fun c347 => ?_) (fun c347 => ?_)
                            · -- then
                              refine AW.rs ?_
                              refine AL.val rfl (.inl rfl) (HV.as rfl) ?_
                              refine AL.nx ?_
                              refine AW.ret ?_
                              refine ret_and ?_
                              refine post_one rfl rfl ?_ (.inr rfl)
                              exfalso; first | omega | exact c347 rfl
                            · -- else
                              refine AW.skip ?_
                              refine nrm_and ?_
                              refine AW.rs ?_
                              refine AL.val rfl (.inl rfl) (HV.mv rfl) ?_
                              refine AL.val rfl (.inl rfl) (HV.mv rfl) ?_
                              refine AL.w rfl (.inl rfl) (WV.call fn63 rfl (openA_ok (hr319.ext X346) hvP 0 (by omega))) ?_
                              rintro _ H348 ⟨rfl, hx349⟩
                              have X350 := Ext.trans X334 hx349
                              have X351 := Ext.trans X335 hx349
                              have X352 := Ext.trans X336 hx349
                              have X353 := Ext.trans X337 hx349
                              have X354 := Ext.trans X338 hx349
                              have X355 := Ext.trans X339 hx349
                              have X356 := Ext.trans X340 hx349
                              have X357 := Ext.trans X341 hx349
                              have X358 := Ext.trans X342 hx349
                              have X359 := Ext.trans X343 hx349
                              have X360 := Ext.trans X344 hx349
                              have X361 := Ext.trans X345 hx349
                              have X362 := Ext.trans X346 hx349
                              refine AL.val rfl (.inl rfl) (HV.mv rfl) ?_
                              refine AL.val rfl (.inl rfl) (HV.ex rfl rfl) ?_
                              refine AL.val rfl (.inl rfl) (HV.ex rfl rfl) ?_
                              refine AL.val rfl (.inl rfl) (HV.as rfl) ?_
                              refine AL.val rfl (.inl rfl) (HV.as rfl) ?_
                              refine AL.nx ?_
                              refine AW.seq ?_
                              refine AW.rs ?_
                              refine AL.val rfl (.inl rfl) (HV.mv rfl) ?_
                              refine AL.val rfl (.inl rfl) (HV.nei rfl rfl) ?_
                              refine AL.val rfl (.inl rfl) (HV.mv rfl) ?_
                              by_cases c367 : (if ((dl p cp pts).length : Int) = 0 then (4 : Int) else 0) ≠ 0
                              · -- true
                                have c367_ : decide ((if ((dl p cp pts).length : Int) = 0 then (4 : Int) else 0) ≠ 0) = true := decide_eq_true c367
                                rw [c367_]
                                refine AL.off rfl rfl (by decide) rfl ?_
                                refine AL.off rfl rfl (by decide) rfl ?_
                                refine AL.off rfl rfl (by decide) rfl ?_
                                refine AL.off rfl rfl (by decide) rfl ?_
                                refine AL.off rfl rfl (by decide) rfl ?_
                                refine AL.off rfl rfl (by decide) rfl ?_
                                refine AL.off rfl rfl (by decide) rfl ?_
                                refine AL.val rfl (.inl rfl) (HV.pickT rfl rfl) ?_
                                refine AL.nx ?_
                                refine AW.cond rfl (fun _ => ?_) (fun h => by cases h)
                                refine AW.rs ?_
                                refine AL.val rfl (.inl rfl) (HV.as rfl) ?_
                                refine AL.nx ?_
                                refine AW.ret ?_
                                refine ret_and ?_
                                refine post_one rfl rfl ?_ (.inr rfl)
                                exfalso; first | omega | exact c367 rfl
                              · -- false
                                have c367_ : decide ((if ((dl p cp pts).length : Int) = 0 then (4 : Int) else 0) ≠ 0) = false := decide_eq_false c367
                                rw [c367_]
                                refine AL.val rfl (.inr ⟨_, _, _, rfl, rfl, rfl⟩) (HV.mv rfl) ?_
                                refine AL.val rfl (.inr ⟨_, _, _, rfl, rfl, rfl⟩) (HV.mv rfl) ?_
                                refine AL.val rfl (.inr ⟨_, _, _, rfl, rfl, rfl⟩) (HV.mv rfl) ?_
                                refine AL.val rfl (.inr ⟨_, _, _, rfl, rfl, rfl⟩) (HV.mul rfl rfl (by omega)) ?_
                                refine AL.val rfl (.inr ⟨_, _, _, rfl, rfl, rfl⟩) (HV.mv rfl) ?_
                                refine AL.val rfl (.inr ⟨_, _, _, rfl, rfl, rfl⟩) (HV.rem rfl rfl (by omega)) ?_
                                refine AL.val rfl (.inr ⟨_, _, _, rfl, rfl, rfl⟩) (HV.nei rfl rfl) ?_
                                refine AL.val rfl (.inl rfl) (HV.pickF rfl rfl) ?_
                                refine AL.nx ?_
                                refine AW.ifd rfl (fun c369 => ?_) (fun c369 => ?_)
                                · -- then
                                  refine AW.rs ?_
                                  refine AL.val rfl (.inl rfl) (HV.as rfl) ?_
                                  refine AL.nx ?_
                                  refine AW.ret ?_
                                  refine ret_and ?_
                                  refine post_one rfl rfl ?_ (.inr rfl)
                                  exfalso; first | omega | exact c369 rfl
                                · -- else
                                  refine AW.skip ?_
                                  refine nrm_and ?_
                                  refine AW.rs ?_
                                  have X370 := Ext.refl H348
                                  have o371 := X350.bd
                                  have o372 := X351.bd
                                  have o373 := X352.bd
                                  have o374 := X353.bd
                                  have o375 := X354.bd
                                  have o376 := X355.bd
                                  have o377 := X356.bd
                                  have o378 := X357.bd
                                  have o379 := X358.bd
                                  have o380 := X359.bd
                                  have o381 := X360.bd
                                  have o382 := X361.bd
                                  have o383 := X362.bd
                                  have o384 := X370.bd
                                  refine AL.w rfl (.inl rfl) (WV.bsK (K := (kO 2 kI)) (l := ([] : List (List Int))) (css := []) sl36 rfl rfl (by first | rfl | (simp [Instr.fill, Value.cells, kI, kB, kU, kS, Kd.sc]; done) | (simp [Instr.fill, Value.cells, kI, kB, kU, kS, Kd.sc, rng1, rng2, rng3, rng4, kP])) rfl segs_nil) ?_
                                  rintro v385 H386 ⟨hx387, ho388⟩
                                  have X389 := Ext.trans X350 hx387
                                  have X390 := Ext.trans X351 hx387
                                  have X391 := Ext.trans X352 hx387
                                  have X392 := Ext.trans X353 hx387
                                  have X393 := Ext.trans X354 hx387
                                  have X394 := Ext.trans X355 hx387
                                  have X395 := Ext.trans X356 hx387
                                  have X396 := Ext.trans X357 hx387
                                  have X397 := Ext.trans X358 hx387
                                  have X398 := Ext.trans X359 hx387
                                  have X399 := Ext.trans X360 hx387
                                  have X400 := Ext.trans X361 hx387
                                  have X401 := Ext.trans X362 hx387
                                  have X402 := Ext.trans X370 hx387
                                  have ho403 := ho388.deep0
                                  refine AL.val rfl (.inl rfl) (HV.as rfl) ?_
                                  refine AL.nx ?_
                                  refine AW.rs ?_
                                  refine AL.val rfl (.inl rfl) (HV.mv rfl) ?_
                                  refine AL.val rfl (.inl rfl) (HV.mv rfl) ?_
                                  refine AL.val rfl (.inl rfl) (HV.mv rfl) ?_
                                  refine AL.val rfl (.inl rfl) (HV.len Try.underlying27 rfl hr52.isSl) ?_
                                  have X405 := Ext.refl H386
                                  have o406 := X389.bd
                                  have o407 := X390.bd
                                  have o408 := X391.bd
                                  have o409 := X392.bd
                                  have o410 := X393.bd
                                  have o411 := X394.bd
                                  have o412 := X395.bd
                                  have o413 := X396.bd
                                  have o414 := X397.bd
                                  have o415 := X398.bd
                                  have o416 := X399.bd
                                  have o417 := X400.bd
                                  have o418 := X401.bd
                                  have o419 := X402.bd
                                  have o420 := X405.bd
                                  have a421 := ho403.ltb
                                  have ho422 := ho403.okk (ok' := fun b => H348.bd ≤ b ∧ b < H386.bd) (fun b hb hlt => ⟨hb, hlt⟩)
                                  refine AL.w rfl (.inl rfl) (WV.call fn51 rfl (p6Res_ok (hr.ext X389) hby p ((dl p ca pts).length : Int) (by omega) (by omega))) ?_
                                  rintro v423 H424 ⟨⟨A, ho426, h427⟩, hx425⟩
                                  have X428 := Ext.trans X389 hx425
                                  have X429 := Ext.trans X390 hx425
                                  have X430 := Ext.trans X391 hx425
                                  have X431 := Ext.trans X392 hx425
                                  have X432 := Ext.trans X393 hx425
                                  have X433 := Ext.trans X394 hx425
                                  have X434 := Ext.trans X395 hx425
                                  have X435 := Ext.trans X396 hx425
                                  have X436 := Ext.trans X397 hx425
                                  have X437 := Ext.trans X398 hx425
                                  have X438 := Ext.trans X399 hx425
                                  have X439 := Ext.trans X400 hx425
                                  have X440 := Ext.trans X401 hx425
                                  have X441 := Ext.trans X402 hx425
                                  have X442 := Ext.trans X405 hx425
                                  have ho443 := ho422.ext hx425
                                  have hA1 := h427.1
                                  have hA2 := h427.2
                                  refine AL.val rfl (.inl rfl) (HV.as rfl) ?_
                                  refine AL.nx ?_
                                  refine AW.seq ?_
                                  refine AW.rs ?_
                                  refine AL.val rfl (.inl rfl) (HV.as rfl) ?_
                                  refine AL.nx ?_
                                  refine AW.block ?_
                                  have ho445 := ho426.narrow (ok' := fun b => H386.bd ≤ b ∧ some b = v423.ownBlock) kI_flat (fun b q => ⟨(ho426.blk b q).1, q⟩)
                                  have d446 : ∀ b, some b = v423.ownBlock → some b = v385.ownBlock → False := fun b h1 h2 => by have x1 := a421 b h2; have x2 : H386.bd ≤ b := (ho426.blk b h1).1; omega
                                  have ho447 := ho443.okk (ok' := fun b => H348.bd ≤ b) (fun b hb _ => hb.1)
                                  refine AW.loop (σ := Nat × Value × List (List Int)) (fun ⟨i, vv, k⟩ => [(0, vc), (4, .bool false), (5, .int .i64 p), (9, v43), (18, .int .i64 (val p ca 0)), (31, v423), (30, vv), (32, .int .i64 (i : Int))]) (fun ⟨i, vv, k⟩ H' => Ext H H' ∧ Ext H17 H' ∧ Ext H25 H' ∧ Ext H34 H' ∧ Ext H44 H' ∧ Ext H54 H' ∧ Ext H129 H' ∧ Ext H150 H' ∧ Ext H165 H' ∧ Ext H188 H' ∧ Ext H205 H' ∧ Ext H286 H' ∧ Ext H303 H' ∧ Ext H348 H' ∧ i ≤ (dl p ca pts).length ∧ k = (List.range i).map (rowF (dl p ca pts) A) ∧ k.length = i ∧ OwnD (kO 2 kI) 24 W H' (fun b => H348.bd ≤ b) vv k ∧ OwnK kI 2 W H' (fun b => H386.bd ≤ b ∧ some b = v423.ownBlock) v423 A ∧ (∀ b, some b = v423.ownBlock → some b = vv.ownBlock → False) ∧ True) (fun ⟨i, vv, k⟩ => (dl p ca pts).length - i) (0, v385, (([] : List (List Int)) : List (List Int))) ⟨X428, X429, X430, X431, X432, X433, X434, X435, X436, X437, X438, X439, X440, X441, Nat.zero_le _, rfl, rfl, ho447, ho445, d446, trivial⟩ ⟨rfl, rfl, rfl, rfl, rfl, rfl, rfl, rfl, trivial⟩ ?_
                                  rintro ⟨i, vv, k⟩ H448 ⟨X449, X450, X451, X452, X453, X454, X455, X456, X457, X458, X459, X460, X461, X462, hi, hk, hk2, hoL, hoW, hdis, _⟩
                                  refine AW.seq ?_
                                  refine AW.rs ?_
                                  refine AL.val rfl (.inl rfl) (HV.mv rfl) ?_
                                  refine AL.val rfl (.inl rfl) (HV.mv rfl) ?_
                                  refine AL.val rfl (.inl rfl) (HV.len Try.underlying27 rfl hr52.isSl) ?_
                                  refine AL.val rfl (.inl rfl) (HV.lti rfl rfl) ?_
                                  refine AL.nx ?_
                                  refine AW.ifd rfl (fun c463 => ?_) (fun c463 => ?_)
                                  · -- then
                                    refine AW.skip ?_
                                    refine nrm_and ?_
                                    refine AW.seq ?_
                                    refine AW.block ?_
                                    refine AW.seq ?_
                                    refine AW.draw' [0, 0, 3, 7, 15, 0, 0, 96, 224, 511, 1023] mixed (by rfl) ?_
                                    refine Dr.read 0 _ 209 _ rfl rfl rfl rfl rfl (RV.of (by intro _ _ h; cases h) (.inl rfl) (fun _ xd => HV.mv rfl)) ?_
                                    refine Dr.read 1 _ 210 _ rfl rfl rfl rfl rfl (RV.of (by intro _ _ h; cases h) (.inl rfl) (fun _ xd => HV.mv rfl)) ?_
                                    obtain ⟨p464, z465, cs466, hz467, hK468, hC469, hP470⟩ := RdK.ix (q := (i : Int)) hr52 sl27 (by omega) (by omega)
                                    obtain ⟨cs471, cs472, rfl, hK473, hK474⟩ := hK468
                                    obtain rfl : cs471 = [.int .i64 z465.1] := hK473
                                    obtain rfl : cs472 = [.int .i64 z465.2] := hK474
                                    refine Dr.read 2 _ 211 _ rfl rfl rfl rfl rfl (RV.of (by intro _ _ h; cases h) (.inl rfl) (fun _ xd => hP470 rfl rfl)) ?_
                                    refine Dr.read 3 _ 212 _ rfl rfl rfl rfl rfl (RV.of (by intro _ _ h; cases h) (.inl rfl) (fun _ xd => HV.fa fl68_1 rfl)) ?_
                                    refine Dr.read 4 _ 213 _ rfl rfl rfl rfl rfl (RV.of (by intro _ _ h; cases h) (.inl rfl) (fun _ xd => HV.ld rfl va2 (rdc_ext xd (cells_at (hC469.ext X453) rfl)))) ?_
                                    refine Dr.read 5 _ 214 _ rfl rfl rfl rfl rfl (RV.of (by intro _ _ h; cases h) (.inl rfl) (fun _ xd => HV.mv rfl)) ?_
                                    refine Dr.read 6 _ 215 _ rfl rfl rfl rfl rfl (RV.of (by intro _ _ h; cases h) (.inl rfl) (fun _ xd => HV.mv rfl)) ?_
                                    obtain ⟨g475, z476, cs477, hz478, hK479, hC480, hg481, hP482⟩ := OwnK.ix (q := (i : Int)) hoW sl24 (by omega) (by omega)
                                    have X483 := Ext.refl H448
                                    obtain rfl : cs477 = [.int .i64 z476] := hK479
                                    refine Dr.read 7 _ 216 _ rfl rfl rfl rfl rfl (RV.of (by intro _ _ h; cases h) (.inl rfl) (fun _ xd => hP482 rfl rfl)) ?_
                                    refine Dr.read 8 _ 217 _ rfl rfl rfl rfl rfl (RV.of (by intro _ _ h; cases h) (.inl rfl) (fun _ xd => HV.ld rfl va2 (rdc_ext xd (cells_first hC480 rfl)))) ?_
                                    have o484 := X449.bd
                                    have o485 := X450.bd
                                    have o486 := X451.bd
                                    have o487 := X452.bd
                                    have o488 := X453.bd
                                    have o489 := X454.bd
                                    have o490 := X455.bd
                                    have o491 := X456.bd
                                    have o492 := X457.bd
                                    have o493 := X458.bd
                                    have o494 := X459.bd
                                    have o495 := X460.bd
                                    have o496 := X461.bd
                                    have o497 := X462.bd
                                    have o498 := X483.bd
                                    have a499 := hoL.ltb
                                    have ho500 := hoL.okk (ok' := fun b => H348.bd ≤ b ∧ b < H448.bd) (fun b hb hlt => ⟨hb, hlt⟩)
                                    have a501 := hoW.ltb
                                    refine Dr.eff 9 _ _ rfl (by intro d h; cases h; exact ⟨rfl, rfl⟩) rfl rfl rfl (EC.of (by intro _ _ h; cases h) (.inl rfl) (WV.bsK (K := kI) (l := ([z465.2, z476, 1] : List Int)) (css := [[.int .i64 z465.2], [.int .i64 z476], [.int .i64 1]]) sl24 rfl rfl (by first | rfl | (simp [Instr.fill, Value.cells, kI, kB, kU, kS, Kd.sc]; done) | (simp [Instr.fill, Value.cells, kI, kB, kU, kS, Kd.sc, rng1, rng2, rng3, rng4, kP])) rfl (segs_cons rfl (segs_cons rfl (segs_cons rfl segs_nil))))) (fun v H' h => .inl (h.1)) ?_
                                    rintro v502 H503 ⟨hx504, ho505⟩
                                    have X506 := Ext.trans X449 hx504
                                    have X507 := Ext.trans X450 hx504
                                    have X508 := Ext.trans X451 hx504
                                    have X509 := Ext.trans X452 hx504
                                    have X510 := Ext.trans X453 hx504
                                    have X511 := Ext.trans X454 hx504
                                    have X512 := Ext.trans X455 hx504
                                    have X513 := Ext.trans X456 hx504
                                    have X514 := Ext.trans X457 hx504
                                    have X515 := Ext.trans X458 hx504
                                    have X516 := Ext.trans X459 hx504
                                    have X517 := Ext.trans X460 hx504
                                    have X518 := Ext.trans X461 hx504
                                    have X519 := Ext.trans X462 hx504
                                    have X520 := Ext.trans X483 hx504
                                    have ho521 := ho500.ext hx504
                                    have ho522 := hoW.ext hx504
                                    refine Dr.read 10 _ 33 _ rfl rfl rfl rfl rfl (RV.of (by intro _ _ h; cases h) (.inl rfl) (fun _ xd => HV.as rfl)) ?_
                                    refine Dr.fin rfl ?_
                                    refine nrm_and ?_
                                    refine AW.reg ?_
                                    refine AL.val rfl (.inl rfl) (HV.mv rfl) ?_
                                    refine AL.val rfl (.inl rfl) (HV.mv rfl) ?_
                                    have X524 := Ext.refl H503
                                    have o525 := X506.bd
                                    have o526 := X507.bd
                                    have o527 := X508.bd
                                    have o528 := X509.bd
                                    have o529 := X510.bd
                                    have o530 := X511.bd
                                    have o531 := X512.bd
                                    have o532 := X513.bd
                                    have o533 := X514.bd
                                    have o534 := X515.bd
                                    have o535 := X516.bd
                                    have o536 := X517.bd
                                    have o537 := X518.bd
                                    have o538 := X519.bd
                                    have o539 := X520.bd
                                    have o540 := X524.bd
                                    have a541 := ho521.ltb
                                    have a542 := ho522.ltb
                                    have a543 := ho505.ltb
                                    have hc548 : v502.cells = #[v502] := by obtain ⟨A, c, e⟩ := ho505.isSl; rw [e]; rfl
                                    refine AL.w rfl (.inl rfl) (WV.bsO (okx := fun b => H448.bd ≤ b) (K := (kO 2 kI)) (l := ([(([z465.2, z476, 1] : List Int) : List Int)] : List (List Int))) (css := [[v502]]) sl36 rfl rfl (by simp [Instr.fill, hc548, kO, rng1]) rfl (segs_cons ⟨_, rfl, ho505⟩ segs_nil)) ?_
                                    rintro v544 H545 ⟨hx546, ho547⟩
                                    have X550 := Ext.trans X506 hx546
                                    have X551 := Ext.trans X507 hx546
                                    have X552 := Ext.trans X508 hx546
                                    have X553 := Ext.trans X509 hx546
                                    have X554 := Ext.trans X510 hx546
                                    have X555 := Ext.trans X511 hx546
                                    have X556 := Ext.trans X512 hx546
                                    have X557 := Ext.trans X513 hx546
                                    have X558 := Ext.trans X514 hx546
                                    have X559 := Ext.trans X515 hx546
                                    have X560 := Ext.trans X516 hx546
                                    have X561 := Ext.trans X517 hx546
                                    have X562 := Ext.trans X518 hx546
                                    have X563 := Ext.trans X519 hx546
                                    have X564 := Ext.trans X520 hx546
                                    have X565 := Ext.trans X524 hx546
                                    have ho566 := ho521.ext hx546
                                    have ho567 := ho522.ext hx546
                                    have ho568 := ho505.ext hx546
                                    have ho549 := ho547.okk (ok' := fun b => H448.bd ≤ b) (fun b hb _ => hb.elim id (fun e => Nat.le_trans X520.bd e))
                                    have X570 := Ext.refl H545
                                    refine AL.w rfl (.inl rfl) (WV.apD (ok := fun b => H348.bd ≤ b) (B := H448.bd) sl36 rfl rfl ho566 ho549.rd X564.bd (by rw [hk2]; omega) (by rw [hk2]; omega)) ?_
                                    rintro v571 H572 ⟨hx573, ho574, hb575⟩
                                    have ho576 := ho574.okk (ok' := fun b => H348.bd ≤ b) (fun b hb _ => hb.elim id (fun e => Nat.le_trans o497 e))
                                    have d577 : ∀ b, some b = v423.ownBlock → some b = v571.ownBlock → False := fun b h1 h2 => (hb575 b h2).elim (fun e => hdis b h1 e) (fun e => by have := (ho567.blk b h1).2.1; omega)
                                    have X578 := Ext.thru X550 hx573 (fun b hb => Nat.le_trans o371 (ho566.blk b hb).1.1)
                                    have X579 := Ext.thru X551 hx573 (fun b hb => Nat.le_trans o372 (ho566.blk b hb).1.1)
                                    have X580 := Ext.thru X552 hx573 (fun b hb => Nat.le_trans o373 (ho566.blk b hb).1.1)
                                    have X581 := Ext.thru X553 hx573 (fun b hb => Nat.le_trans o374 (ho566.blk b hb).1.1)
                                    have X582 := Ext.thru X554 hx573 (fun b hb => Nat.le_trans o375 (ho566.blk b hb).1.1)
                                    have X583 := Ext.thru X555 hx573 (fun b hb => Nat.le_trans o376 (ho566.blk b hb).1.1)
                                    have X584 := Ext.thru X556 hx573 (fun b hb => Nat.le_trans o377 (ho566.blk b hb).1.1)
                                    have X585 := Ext.thru X557 hx573 (fun b hb => Nat.le_trans o378 (ho566.blk b hb).1.1)
                                    have X586 := Ext.thru X558 hx573 (fun b hb => Nat.le_trans o379 (ho566.blk b hb).1.1)
                                    have X587 := Ext.thru X559 hx573 (fun b hb => Nat.le_trans o380 (ho566.blk b hb).1.1)
                                    have X588 := Ext.thru X560 hx573 (fun b hb => Nat.le_trans o381 (ho566.blk b hb).1.1)
                                    have X589 := Ext.thru X561 hx573 (fun b hb => Nat.le_trans o382 (ho566.blk b hb).1.1)
                                    have X590 := Ext.thru X562 hx573 (fun b hb => Nat.le_trans o383 (ho566.blk b hb).1.1)
                                    have X591 := Ext.thru X563 hx573 (fun b hb => Nat.le_trans o384 (ho566.blk b hb).1.1)
                                    have ho595 := ho567.but hx573 (fun b h1 _ h2 => hdis b h1.2 h2) (fun b hb => (ho566.blk b hb).2.2)
                                    refine AL.val rfl (.inl rfl) (HV.as rfl) ?_
                                    refine AL.nil ?_
                                    refine nrm_blk (nrm_and ?_)
                                    refine AW.reg ?_
                                    refine AL.val rfl (.inl rfl) (HV.mv rfl) ?_
                                    refine AL.val rfl (.inl rfl) (HV.add rfl rfl (by omega)) ?_
                                    refine AL.val rfl (.inl rfl) (HV.as rfl) ?_
                                    refine AL.nil ?_
                                    refine nrm_and ?_
                                    exact ⟨(i + 1, v571, (k ++ ([(([z465.2, z476, 1] : List Int) : List Int)] : List (List Int)))), ⟨X578, X579, X580, X581, X582, X583, X584, X585, X586, X587, X588, X589, X590, X591, by omega, by rw [List.range_succ, List.map_append, hk]; exact congrArg (fun z => (List.range i).map (rowF (dl p ca pts) A) ++ [z]) (show _ = rowF (dl p ca pts) A i by unfold rowF; rw [gd hz467 rfl, gd hz478 rfl]), by simp [hk2], ho576, ho595, d577, trivial⟩, by first | omega | (dsimp only; omega), ⟨rfl, rfl, rfl, rfl, rfl, rfl, rfl, rfl, trivial⟩⟩
                                  · -- else
                                    refine AW.exit ?_
                                    refine ex_and (ex_and (ex_blk ?_))
                                    refine nrm_and ?_
                                    refine AW.rs ?_
                                    refine AL.val rfl (.inl rfl) (HV.mv rfl) ?_
                                    refine AL.val rfl (.inl rfl) (HV.mv rfl) ?_
                                    refine AL.w rfl (.inl rfl) (WV.call fn44 rfl (p6Points_ok (hr.ext X449) hby p 3 (by omega) (by omega))) ?_
                                    rintro v596 H597 ⟨⟨pts2, ho599, h600⟩, hx598⟩
                                    have X602 := Ext.trans X449 hx598
                                    have X603 := Ext.trans X450 hx598
                                    have X604 := Ext.trans X451 hx598
                                    have X605 := Ext.trans X452 hx598
                                    have X606 := Ext.trans X453 hx598
                                    have X607 := Ext.trans X454 hx598
                                    have X608 := Ext.trans X455 hx598
                                    have X609 := Ext.trans X456 hx598
                                    have X610 := Ext.trans X457 hx598
                                    have X611 := Ext.trans X458 hx598
                                    have X612 := Ext.trans X459 hx598
                                    have X613 := Ext.trans X460 hx598
                                    have X614 := Ext.trans X461 hx598
                                    have X615 := Ext.trans X462 hx598
                                    have ho616 := hoL.ext hx598
                                    have ho617 := hoW.ext hx598
                                    have X618 := Ext.refl H597
                                    have hr601 := ho599.rd
                                    have hpt2 : ptsI p pts2 := ⟨by have := h600.2.1; omega, h600.1⟩
                                    have hpt2l := h600.2.2
                                    have hpt210 := h600.2.1
                                    refine AL.val rfl (.inl rfl) (HV.as rfl) ?_
                                    refine AL.nx ?_
                                    refine AW.rs ?_
                                    obtain ⟨⟨hRC, hRF, hRL⟩, cr, ⟨hcr, hcr3⟩, hcr0, hcrD⟩ := resh_ok (L := k) hvA hA2 (by rw [hk, show i = (dl p ca pts).length by omega])
                                    have hopA := dl_open hP.1 hpt (show ca.length ≤ pts.length by omega) 0
                                    have hvR : vS p (dl p cr pts2) := vS_dl hP.1 hpt2
                                    have hdR := dl_len p cr pts2
                                    have hopR := dl_open hP.1 hpt2 (show cr.length ≤ pts2.length by omega) 0
                                    have hthR := dl_thr3 hP.1 hcr hpt2 (show cr.length ≤ pts2.length by omega)
                                    have hrsD := hcrD pts2
                                    refine AL.val rfl (.inl rfl) (HV.mv rfl) ?_
                                    refine AL.val rfl (.inl rfl) (HV.mv rfl) ?_
                                    refine AL.val rfl (.inl rfl) (HV.mv rfl) ?_
                                    refine AL.val rfl (.inl rfl) (HV.mv rfl) ?_
                                    refine AL.w rfl (.inl rfl) (WV.call fn40 rfl (implRs0 p (hr52.ext X606) (rd_ofO ho616.rd) hr601 ⟨hvA, hRC⟩ ⟨hRL, hpt2⟩ ⟨hRF, by omega⟩ (by omega))) ?_
                                    rintro _ H620 ⟨⟨v619, rfl, hr622⟩, hx621⟩
                                    have X623 := Ext.trans X602 hx621
                                    have X624 := Ext.trans X603 hx621
                                    have X625 := Ext.trans X604 hx621
                                    have X626 := Ext.trans X605 hx621
                                    have X627 := Ext.trans X606 hx621
                                    have X628 := Ext.trans X607 hx621
                                    have X629 := Ext.trans X608 hx621
                                    have X630 := Ext.trans X609 hx621
                                    have X631 := Ext.trans X610 hx621
                                    have X632 := Ext.trans X611 hx621
                                    have X633 := Ext.trans X612 hx621
                                    have X634 := Ext.trans X613 hx621
                                    have X635 := Ext.trans X614 hx621
                                    have X636 := Ext.trans X615 hx621
                                    have X637 := Ext.trans X618 hx621
                                    have ho638 := ho616.ext hx621
                                    have ho639 := ho617.ext hx621
                                    have X640 := Ext.refl H620
                                    have hr641 := hr622.rd
                                    rw [hrsD] at hr641
                                    refine AL.val rfl (.inl rfl) (HV.mv rfl) ?_
                                    refine AL.val rfl (.inl rfl) (HV.ex rfl rfl) ?_
                                    refine AL.val rfl (.inl rfl) (HV.ex rfl rfl) ?_
                                    refine AL.val rfl (.inl rfl) (HV.as rfl) ?_
                                    refine AL.val rfl (.inl rfl) (HV.as rfl) ?_
                                    refine AL.nx ?_
                                    refine AW.rs ?_
                                    refine AL.val rfl (.inl rfl) (HV.mv rfl) ?_
                                    refine AL.val rfl (.inl rfl) (HV.mv rfl) ?_
                                    refine AL.val rfl (.inl rfl) (HV.mv rfl) ?_
                                    refine AL.val rfl (.inl rfl) (HV.mv rfl) ?_
                                    refine AL.w rfl (.inl rfl) (WV.call fn38 rfl (specRs0 p (hr52.ext X627) (rd_ofO ho638.rd) (hr601.ext X637) ⟨hvA, hRC⟩ ⟨hRL, hpt2⟩ ⟨hRF, by omega⟩ (by omega))) ?_
                                    rintro _ H643 ⟨⟨v642, rfl, hr645⟩, hx644⟩
                                    have X646 := Ext.trans X623 hx644
                                    have X647 := Ext.trans X624 hx644
                                    have X648 := Ext.trans X625 hx644
                                    have X649 := Ext.trans X626 hx644
                                    have X650 := Ext.trans X627 hx644
                                    have X651 := Ext.trans X628 hx644
                                    have X652 := Ext.trans X629 hx644
                                    have X653 := Ext.trans X630 hx644
                                    have X654 := Ext.trans X631 hx644
                                    have X655 := Ext.trans X632 hx644
                                    have X656 := Ext.trans X633 hx644
                                    have X657 := Ext.trans X634 hx644
                                    have X658 := Ext.trans X635 hx644
                                    have X659 := Ext.trans X636 hx644
                                    have X660 := Ext.trans X637 hx644
                                    have X661 := Ext.trans X640 hx644
                                    have ho662 := ho638.ext hx644
                                    have ho663 := ho639.ext hx644
                                    have X664 := Ext.refl H643
                                    have hr665 := hr645.rd
                                    rw [hrsD] at hr665
                                    refine AL.val rfl (.inl rfl) (HV.mv rfl) ?_
                                    refine AL.val rfl (.inl rfl) (HV.ex rfl rfl) ?_
                                    refine AL.val rfl (.inl rfl) (HV.ex rfl rfl) ?_
                                    refine AL.val rfl (.inl rfl) (HV.as rfl) ?_
                                    refine AL.val rfl (.inl rfl) (HV.as rfl) ?_
                                    refine AL.nx ?_
                                    refine AW.seq ?_
                                    refine AW.rs ?_
                                    refine AL.val rfl (.inl rfl) (HV.mv rfl) ?_
                                    refine AL.val rfl (.inl rfl) (HV.mv rfl) ?_
                                    refine AL.val rfl (.inl rfl) (HV.nei rfl rfl) ?_
                                    refine AL.val rfl (.inl rfl) (HV.mv rfl) ?_
                                    by_cases c666 : (0 : Int) ≠ 0
                                    · -- true
                                      have c666_ : decide ((0 : Int) ≠ 0) = true := decide_eq_true c666
                                      rw [c666_]
                                      refine AL.off rfl rfl (by decide) rfl ?_
                                      refine AL.off rfl rfl (by decide) rfl ?_
                                      refine AL.val rfl (.inl rfl) (HV.pickT rfl rfl) ?_
                                      refine AL.val rfl (.inl rfl) (HV.mv rfl) ?_
                                      refine AL.off rfl rfl (by decide) rfl ?_
                                      refine AL.off rfl rfl (by decide) rfl ?_
                                      refine AL.off rfl rfl (by decide) rfl ?_
                                      refine AL.off rfl rfl (by decide) rfl ?_
                                      refine AL.val rfl (.inl rfl) (HV.pickT rfl rfl) ?_
                                      refine AL.nx ?_
                                      refine AW.cond rfl (fun _ => ?_) (fun h => by cases h)
                                      refine AW.rs ?_
                                      refine AL.val rfl (.inl rfl) (HV.as rfl) ?_
                                      refine AL.nx ?_
                                      refine AW.ret ?_
                                      refine ret_and ?_
                                      refine post_one rfl rfl ?_ (.inr rfl)
                                      exfalso; first | omega | exact c666 rfl
                                    · -- false
                                      have c666_ : decide ((0 : Int) ≠ 0) = false := decide_eq_false c666
                                      rw [c666_]
                                      refine AL.val rfl (.inr ⟨_, _, _, rfl, rfl, rfl⟩) (HV.mv rfl) ?_
                                      refine AL.val rfl (.inr ⟨_, _, _, rfl, rfl, rfl⟩) (HV.nei rfl rfl) ?_
                                      refine AL.val rfl (.inl rfl) (HV.pickF rfl rfl) ?_
                                      refine AL.val rfl (.inl rfl) (HV.mv rfl) ?_
                                      by_cases c668 : (0 : Int) ≠ 0
                                      · -- true
                                        have c668_ : decide ((0 : Int) ≠ 0) = true := decide_eq_true c668
                                        rw [c668_]
                                        refine AL.off rfl rfl (by decide) rfl ?_
                                        refine AL.off rfl rfl (by decide) rfl ?_
                                        refine AL.off rfl rfl (by decide) rfl ?_
                                        refine AL.off rfl rfl (by decide) rfl ?_
                                        refine AL.val rfl (.inl rfl) (HV.pickT rfl rfl) ?_
                                        refine AL.nx ?_
                                        refine AW.cond rfl (fun _ => ?_) (fun h => by cases h)
                                        refine AW.rs ?_
                                        refine AL.val rfl (.inl rfl) (HV.as rfl) ?_
                                        refine AL.nx ?_
                                        refine AW.ret ?_
                                        refine ret_and ?_
                                        refine post_one rfl rfl ?_ (.inr rfl)
                                        exfalso; first | omega | exact c668 rfl
                                      · -- false
                                        have c668_ : decide ((0 : Int) ≠ 0) = false := decide_eq_false c668
                                        rw [c668_]
                                        refine AL.val rfl (.inr ⟨_, _, _, rfl, rfl, rfl⟩) (HV.mv rfl) ?_
                                        refine AL.val rfl (.inr ⟨_, _, _, rfl, rfl, rfl⟩) (HV.mv rfl) ?_
                                        refine AL.w rfl (.inr ⟨_, _, _, rfl, rfl, rfl⟩) (WV.call fn61 rfl (f6sh_ok (hr641.ext X661) hr665)) ?_
                                        rintro _ H670 ⟨rfl, hx671⟩
                                        have X672 := Ext.trans X646 hx671
                                        have X673 := Ext.trans X647 hx671
                                        have X674 := Ext.trans X648 hx671
                                        have X675 := Ext.trans X649 hx671
                                        have X676 := Ext.trans X650 hx671
                                        have X677 := Ext.trans X651 hx671
                                        have X678 := Ext.trans X652 hx671
                                        have X679 := Ext.trans X653 hx671
                                        have X680 := Ext.trans X654 hx671
                                        have X681 := Ext.trans X655 hx671
                                        have X682 := Ext.trans X656 hx671
                                        have X683 := Ext.trans X657 hx671
                                        have X684 := Ext.trans X658 hx671
                                        have X685 := Ext.trans X659 hx671
                                        have X686 := Ext.trans X660 hx671
                                        have X687 := Ext.trans X661 hx671
                                        have X688 := Ext.trans X664 hx671
                                        have ho689 := ho662.ext hx671
                                        have ho690 := ho663.ext hx671
                                        refine AL.val rfl (.inr ⟨_, _, _, rfl, rfl, rfl⟩) (HV.not rfl) ?_
                                        refine AL.val rfl (.inl rfl) (HV.pickF rfl rfl) ?_
                                        refine AL.nx ?_
                                        refine AW.ifn rfl (fun c691 => ?_) (fun c691 => ?_)
                                        · -- then
                                          refine AW.rs ?_
                                          refine AL.val rfl (.inl rfl) (HV.as rfl) ?_
                                          refine AL.nx ?_
                                          refine AW.ret ?_
                                          refine ret_and ?_
                                          refine post_one rfl rfl ?_ (.inr rfl)
                                          exfalso; first | omega | exact c691 rfl
                                        · -- else
                                          refine AW.skip ?_
                                          refine nrm_and ?_
                                          refine AW.rs ?_
                                          refine AL.val rfl (.inl rfl) (HV.mv rfl) ?_
                                          refine AL.val rfl (.inl rfl) (HV.mv rfl) ?_
                                          refine AL.w rfl (.inl rfl) (WV.call fn63 rfl (openA_ok (hr665.ext X688) hvR 0 (by omega))) ?_
                                          rintro _ H692 ⟨rfl, hx693⟩
                                          have X694 := Ext.trans X672 hx693
                                          have X695 := Ext.trans X673 hx693
                                          have X696 := Ext.trans X674 hx693
                                          have X697 := Ext.trans X675 hx693
                                          have X698 := Ext.trans X676 hx693
                                          have X699 := Ext.trans X677 hx693
                                          have X700 := Ext.trans X678 hx693
                                          have X701 := Ext.trans X679 hx693
                                          have X702 := Ext.trans X680 hx693
                                          have X703 := Ext.trans X681 hx693
                                          have X704 := Ext.trans X682 hx693
                                          have X705 := Ext.trans X683 hx693
                                          have X706 := Ext.trans X684 hx693
                                          have X707 := Ext.trans X685 hx693
                                          have X708 := Ext.trans X686 hx693
                                          have X709 := Ext.trans X687 hx693
                                          have X710 := Ext.trans X688 hx693
                                          have ho711 := ho689.ext hx693
                                          have ho712 := ho690.ext hx693
                                          refine AL.val rfl (.inl rfl) (HV.mv rfl) ?_
                                          refine AL.val rfl (.inl rfl) (HV.ex rfl rfl) ?_
                                          refine AL.val rfl (.inl rfl) (HV.ex rfl rfl) ?_
                                          refine AL.val rfl (.inl rfl) (HV.as rfl) ?_
                                          refine AL.val rfl (.inl rfl) (HV.as rfl) ?_
                                          refine AL.nx ?_
                                          refine AW.rs ?_
                                          refine AL.val rfl (.inl rfl) (HV.mv rfl) ?_
                                          refine AL.val rfl (.inl rfl) (HV.mv rfl) ?_
                                          refine AL.w rfl (.inl rfl) (WV.call fn64 rfl (liesOn_ok (hr665.ext X710) hvR 2 (by omega))) ?_
                                          rintro _ H717 ⟨rfl, hx718⟩
                                          have X719 := Ext.trans X694 hx718
                                          have X720 := Ext.trans X695 hx718
                                          have X721 := Ext.trans X696 hx718
                                          have X722 := Ext.trans X697 hx718
                                          have X723 := Ext.trans X698 hx718
                                          have X724 := Ext.trans X699 hx718
                                          have X725 := Ext.trans X700 hx718
                                          have X726 := Ext.trans X701 hx718
                                          have X727 := Ext.trans X702 hx718
                                          have X728 := Ext.trans X703 hx718
                                          have X729 := Ext.trans X704 hx718
                                          have X730 := Ext.trans X705 hx718
                                          have X731 := Ext.trans X706 hx718
                                          have X732 := Ext.trans X707 hx718
                                          have X733 := Ext.trans X708 hx718
                                          have X734 := Ext.trans X709 hx718
                                          have X735 := Ext.trans X710 hx718
                                          have ho736 := ho711.ext hx718
                                          have ho737 := ho712.ext hx718
                                          refine AL.val rfl (.inl rfl) (HV.mv rfl) ?_
                                          refine AL.val rfl (.inl rfl) (HV.ex rfl rfl) ?_
                                          refine AL.val rfl (.inl rfl) (HV.ex rfl rfl) ?_
                                          refine AL.val rfl (.inl rfl) (HV.as rfl) ?_
                                          refine AL.val rfl (.inl rfl) (HV.as rfl) ?_
                                          refine AL.nx ?_
                                          refine AW.rs ?_
                                          refine AL.val rfl (.inl rfl) (HV.mv rfl) ?_
                                          refine AL.val rfl (.inl rfl) (HV.eqi rfl rfl) ?_
                                          refine AL.val rfl (.inl rfl) (HV.mv rfl) ?_
                                          by_cases c738 : (if ((dl p cr pts2).length : Int) = 0 then (4 : Int) else 0) = 0
                                          · -- true
                                            have c738_ : decide ((if ((dl p cr pts2).length : Int) = 0 then (4 : Int) else 0) = 0) = true := decide_eq_true c738
                                            rw [c738_]
                                            refine AL.val rfl (.inr ⟨_, _, _, rfl, rfl, rfl⟩) (HV.mv rfl) ?_
                                            refine AL.val rfl (.inr ⟨_, _, _, rfl, rfl, rfl⟩) (HV.eqi rfl rfl) ?_
                                            refine AL.val rfl (.inl rfl) (HV.pickT rfl rfl) ?_
                                            refine AL.val rfl (.inl rfl) (HV.mv rfl) ?_
                                            by_cases c739 : (0 : Int) = 0
                                            · -- true
                                              have c739_ : decide ((0 : Int) = 0) = true := decide_eq_true c739
                                              rw [c739_]
                                              refine AL.val rfl (.inr ⟨_, _, _, rfl, rfl, rfl⟩) (HV.mv rfl) ?_
                                              refine AL.val rfl (.inr ⟨_, _, _, rfl, rfl, rfl⟩) (HV.mv rfl) ?_
                                              refine AL.val rfl (.inr ⟨_, _, _, rfl, rfl, rfl⟩) (HV.eqi rfl rfl) ?_
                                              refine AL.val rfl (.inl rfl) (HV.pickT rfl rfl) ?_
                                              refine AL.val rfl (.inl rfl) (HV.mv rfl) ?_
                                              by_cases c740 : (if ((dl p cr pts2).length : Int) = 0 then (0 : Int) else opV p (dl p cr pts2) 0) = (val p ca 0)
                                              · -- true
                                                have c740_ : decide ((if ((dl p cr pts2).length : Int) = 0 then (0 : Int) else opV p (dl p cr pts2) 0) = (val p ca 0)) = true := decide_eq_true c740
                                                rw [c740_]
                                                refine AL.val rfl (.inr ⟨_, _, _, rfl, rfl, rfl⟩) (HV.mv rfl) ?_
                                                refine AL.val rfl (.inl rfl) (HV.pickT rfl rfl) ?_
                                                refine AL.val rfl (.inl rfl) (HV.as rfl) ?_
                                                refine AL.nx ?_
                                                refine AW.ret ?_
                                                refine post_one rfl rfl ?_ (.inr rfl)
                                                exact ⟨congrArg Value.bool (decide_eq_true (by omega)), X719⟩
                                              · -- false
                                                have c740_ : decide ((if ((dl p cr pts2).length : Int) = 0 then (0 : Int) else opV p (dl p cr pts2) 0) = (val p ca 0)) = false := decide_eq_false c740
                                                rw [c740_]
                                                refine AL.off rfl rfl (by decide) rfl ?_
                                                refine AL.val rfl (.inl rfl) (HV.pickF rfl rfl) ?_
                                                refine AL.val rfl (.inl rfl) (HV.as rfl) ?_
                                                refine AL.nx ?_
                                                refine AW.ret ?_
                                                refine post_one rfl rfl ?_ (.inr rfl)
                                                exfalso; first | omega | exact c740 rfl
                                            · -- false
                                              have c739_ : decide ((0 : Int) = 0) = false := decide_eq_false c739
                                              rw [c739_]
                                              refine AL.off rfl rfl (by decide) rfl ?_
                                              refine AL.off rfl rfl (by decide) rfl ?_
                                              refine AL.off rfl rfl (by decide) rfl ?_
                                              refine AL.val rfl (.inl rfl) (HV.pickF rfl rfl) ?_
                                              refine AL.val rfl (.inl rfl) (HV.mv rfl) ?_
                                              refine AL.off rfl rfl (by decide) rfl ?_
                                              refine AL.val rfl (.inl rfl) (HV.pickF rfl rfl) ?_
                                              refine AL.val rfl (.inl rfl) (HV.as rfl) ?_
                                              refine AL.nx ?_
                                              refine AW.ret ?_
                                              refine post_one rfl rfl ?_ (.inr rfl)
                                              exfalso; first | omega | exact c739 rfl
                                          · -- false
                                            have c738_ : decide ((if ((dl p cr pts2).length : Int) = 0 then (4 : Int) else 0) = 0) = false := decide_eq_false c738
                                            rw [c738_]
                                            refine AL.off rfl rfl (by decide) rfl ?_
                                            refine AL.off rfl rfl (by decide) rfl ?_
                                            refine AL.val rfl (.inl rfl) (HV.pickF rfl rfl) ?_
                                            refine AL.val rfl (.inl rfl) (HV.mv rfl) ?_
                                            refine AL.off rfl rfl (by decide) rfl ?_
                                            refine AL.off rfl rfl (by decide) rfl ?_
                                            refine AL.off rfl rfl (by decide) rfl ?_
                                            refine AL.val rfl (.inl rfl) (HV.pickF rfl rfl) ?_
                                            refine AL.val rfl (.inl rfl) (HV.mv rfl) ?_
                                            refine AL.off rfl rfl (by decide) rfl ?_
                                            refine AL.val rfl (.inl rfl) (HV.pickF rfl rfl) ?_
                                            refine AL.val rfl (.inl rfl) (HV.as rfl) ?_
                                            refine AL.nx ?_
                                            refine AW.ret ?_
                                            refine post_one rfl rfl ?_ (.inr rfl)
                                            exfalso; first | omega | exact c738 rfl
end Go.Proofs.Ytonpikcbmgmchaa.VC
