/- Walks. -/
import Derived.Test.YticobjbjejpomaaZI
set_option linter.unusedVariables false
set_option linter.unusedSimpArgs false
namespace Go.Proofs.Yticobjbjejpomaa.VC
open Go Go.RowKit
variable {W : World} {H : Hp}
/-! ### Curves: sums, multiples, the curve through points -/
open VI (addC addAt addC_length stripM cutTo mulLin mulAt byAt thrFrom throughM skipFold skipFold_cons)
/-- Taken off: lo = 0 :: l, times (x - y). -/
def offF (p x : Int) (lo l : List Int) (j : Nat) : Int := (lo.getD j 0 + (p - x) * l.getD j 0) % p
/-! ### The curve through shares -/
def pxD (l : List (Int × Int)) (k : Nat) : Int := (l.getD k (0, 0)).1
def prt (p : Int) (l : List (Int × Int)) (i j : Nat) : List Int := (List.range j).foldl (fun c k => if k = i then c else mulLin p c (pxD l k)) [1]
def den (p : Int) (l : List (Int × Int)) (i j : Nat) : Int := (List.range j).foldl (fun d k => if k = i then d else (d * (pxD l i - pxD l k + p)) % p) 1
def thr (p : Int) (l : List (Int × Int)) (n : Nat) : List Int := (List.range n).foldl (fun o i => addC p 1 o (scl p ((invM p (den p l i l.length) * (l.getD i (0, 0)).2) % p) (prt p l i l.length))) []
theorem vS_len {p : Int} {l : List (Int × Int)} (h : vS p l) : l.length ≤ 10 := by
  have := h.2.2.1
  rw [List.length_map] at this; omega
/-! ### A front of a row of the call's own -/
def cutv (v : Value) (n : Nat) : Value := match v with | .slice a _ c => .slice a n c | u => u
section
variable {P : Program} {α : Type} {K : Kd α} {ok : Nat → Prop} {v : Value} {l : List α} {e : Nat} {t : TypeId}
end
theorem wts_in {p : Int} (hp : 2 ≤ p) (l : List Int) (x : Int) (n : Nat) : elems p (wts p l x n) := fun j hj => by
  rw [wts_len] at hj
  have e : (wts p l x n).getD j 0 = wP p l x j l.length := by simp [wts, hj]
  have h := wP_in hp l x j l.length
  rw [e]; omega
def opV (p : Int) (l : List (Int × Int)) (x : Int) : Int := dotI (wts p (l.map Prod.fst) x (l.map Prod.fst).length) (l.map Prod.snd) (wts p (l.map Prod.fst) x (l.map Prod.fst).length).length % p
/-- The reference's sum, where i numbers have been added. -/
def sumT (p t : Int) (la lb : List Int) (i : Nat) : List Int := (List.range (max la.length i)).map (fun j => if j < i then addAt p t la lb j else la.getD j 0)
/-! ### Shares compared -/
/-! ### Curves and their shares -/
open VI (dl dl_fst cutTo throughM addC stripM pe cval_pe stripM_pe addC_pe addC_length allR lastNZ)
theorem dl_snd (p : Int) (c pts : List Int) : (dl p c pts).map Prod.snd = pts.map (fun y => VI.cval p c y) := by
  unfold dl
  rw [List.map_map]; rfl
theorem dl_len (p : Int) (c pts : List Int) : (dl p c pts).length = pts.length := by simp [dl]
theorem dl_open {p : Int} {c pts : List Int} (hp : primeI p) (hpt : ptsI p pts) (hl : c.length ≤ pts.length) (x : Int) : opV p (dl p c pts) x = val p c x := by
  have h := VI.dot_exact (isPr_of hp) (VI.dst_of hpt) hl x
  unfold opV
  rw [dl_fst, dl_snd, VI.wts_wM]
  refine Eq.trans ?_ h
  unfold VI.dotM dotI
  rw [VI.sumM_range _ _ (by simp [VI.wM]), Int.zero_add]

variable {W : World} {H : Hp}

set_option maxRecDepth 100000 in
theorem openAt_ok {v : Value} {l : List (Int × Int)} {ok : Nat → Prop} (hr : RdK (kP kI kI) W H ok v l) {p : Int} (hv : vS p l) (x : Int) (hx : 0 ≤ x ∧ x ≤ p - 1) : ACalls Try.prog W 128 #[.int .i64 p, v, .int .i64 x] H (fun r H' => r = .int .i64 (opV p l x) ∧ Ext H H') := by
  refine ACalls.of (args := [.int .i64 p, v, .int .i64 x]) Try.func128 rfl rfl ?_
  have X0 := Ext.refl H
  have hm1 := hr.max
  have hl10 := vS_len hv
  have hp := hv.1.1
  have hq := isPr_of hv.1
  have hml : (l.map Prod.fst).length = l.length := List.length_map _
  have hml2 : (l.map Prod.snd).length = l.length := List.length_map _
  refine AW.rs ?_
  refine AL.val rfl (.inl rfl) (HV.as rfl) ?_
  refine AL.nx ?_
  refine AW.rs ?_
  refine AL.val rfl (.inl rfl) (HV.mv rfl) ?_
  refine AL.w rfl (.inl rfl) (WV.call fn172 rfl (ptsOf_ok hr (by omega))) ?_
  rintro _ H4 ⟨⟨u2, v3, rfl, hr6, hr7⟩, hx5⟩
  have X8 := Ext.trans X0 hx5
  have X9 := Ext.refl H4
  refine AL.val rfl (.inl rfl) (HV.mv rfl) ?_
  refine AL.val rfl (.inl rfl) (HV.ex rfl rfl) ?_
  refine AL.val rfl (.inl rfl) (HV.ex rfl rfl) ?_
  refine AL.val rfl (.inl rfl) (HV.as rfl) ?_
  refine AL.val rfl (.inl rfl) (HV.as rfl) ?_
  refine AL.nx ?_
  refine AW.rs ?_
  refine AL.val rfl (.inl rfl) (HV.mv rfl) ?_
  refine AL.val rfl (.inl rfl) (HV.mv rfl) ?_
  refine AL.val rfl (.inl rfl) (HV.mv rfl) ?_
  refine AL.val rfl (.inl rfl) (HV.mv rfl) ?_
  refine AL.w rfl (.inl rfl) (WV.call fn173 rfl (weights_ok p x hr6 hq hx hv.2.2.2 (by omega))) ?_
  rintro v10 H11 ⟨hx12, ho13⟩
  have X15 := Ext.trans X8 hx12
  have X16 := Ext.trans X9 hx12
  have X17 := Ext.refl H11
  have hr14 : RdK kI W H11 _ v10 (wts p (l.map Prod.fst) x (l.map Prod.fst).length) := ho13.rd
  refine AL.val rfl (.inl rfl) (HV.mv rfl) ?_
  refine AL.w rfl (.inl rfl) (WV.call fn89 rfl (dot_ok hr14 (hr7.ext X16) hp (wts_in hp.1 _ _ _) hv.2.1 ⟨by rw [wts_len]; omega, by rw [wts_len]; omega⟩)) ?_
  rintro _ H18 ⟨rfl, hx19⟩
  have X20 := Ext.trans X15 hx19
  have X21 := Ext.trans X16 hx19
  have X22 := Ext.trans X17 hx19
  refine AL.val rfl (.inl rfl) (HV.as rfl) ?_
  refine AL.nx ?_
  refine AW.ret ?_
  refine post_one rfl rfl ?_ (.inr rfl)
  exact ⟨rfl, X20⟩

set_option maxRecDepth 100000 in
theorem openA_ok {v : Value} {l : List (Int × Int)} {ok : Nat → Prop} (hr : RdK (kP kI kI) W H ok v l) {p : Int} (hv : vS p l) (x : Int) (hx : 0 ≤ x ∧ x ≤ p - 1) : ACalls Try.prog W 56 #[.int .i64 p, v, .int .i64 x] H (fun r H' => r = .tuple #[.int .i64 (if (l.length : Int) = 0 then 0 else opV p l x), .int .i64 (if (l.length : Int) = 0 then 4 else 0)] ∧ Ext H H') := by
  refine ACalls.of (args := [.int .i64 p, v, .int .i64 x]) Try.func56 rfl rfl ?_
  have X0 := Ext.refl H
  have hm1 := hr.max
  have hl10 := vS_len hv
  refine AW.rs ?_
  refine AL.val rfl (.inl rfl) (HV.as rfl) ?_
  refine AL.val rfl (.inl rfl) (HV.as rfl) ?_
  refine AL.nx ?_
  refine AW.seq ?_
  refine AW.block ?_
  refine AW.rs ?_
  refine AL.val rfl (.inl rfl) (HV.mv rfl) ?_
  refine AL.val rfl (.inl rfl) (HV.mv rfl) ?_
  refine AL.w rfl (.inl rfl) (WV.call fn127 rfl (implVS_ok hr p (by omega))) ?_
  rintro _ H2 ⟨rfl, hx3⟩
  have X4 := Ext.trans X0 hx3
  refine AL.val rfl (.inl rfl) (HV.not rfl) ?_
  refine AL.val rfl (.inl rfl) (HV.as rfl) ?_
  refine AL.nx ?_
  refine AW.ifn rfl (fun c5 => ?_) (fun c5 => ?_)
  · -- then
    refine AW.rs ?_
    refine AL.val rfl (.inl rfl) (HV.as rfl) ?_
    refine AL.val rfl (.inl rfl) (HV.as rfl) ?_
    refine AL.nx ?_
    refine AW.ret ?_
    refine ret_blk (ret_and ?_)
    refine post_two rfl rfl rfl ?_ (.inr rfl)
    exfalso; first | exact c5 hv | exact c5 ⟨hv.1, elems_one.2 hx⟩
  · -- else
    refine AW.rs ?_
    refine AL.val rfl (.inl rfl) (HV.mv rfl) ?_
    refine AL.val rfl (.inl rfl) (HV.mv rfl) ?_
    have X6 := Ext.refl H2
    have o7 := X4.bd
    have o8 := X6.bd
    refine AL.w rfl (.inl rfl) (WV.bsK (K := kI) (l := ([x] : List Int)) (css := [[.int .i64 x]]) sl22 rfl rfl (by first | rfl | (simp [Instr.fill, Value.cells, kI, kB, kU, kU8, kS, Kd.sc]; done) | (simp [Instr.fill, Value.cells, kI, kB, kU, kU8, kS, Kd.sc, rng1, rng2, rng3, rng4, kP])) rfl (segs_cons rfl segs_nil)) ?_
    rintro v9 H10 ⟨hx11, ho12⟩
    have X13 := Ext.trans X4 hx11
    have X14 := Ext.trans X6 hx11
    refine AL.w rfl (.inl rfl) (WV.call fn86 rfl (areEl_ok p ho12.rd)) ?_
    rintro _ H16 ⟨rfl, hx17⟩
    have X18 := Ext.trans X13 hx17
    have X19 := Ext.trans X14 hx17
    have ho20 := ho12.ext hx17
    refine AL.val rfl (.inl rfl) (HV.not rfl) ?_
    refine AL.val rfl (.inl rfl) (HV.as rfl) ?_
    refine AL.nx ?_
    refine AW.ifn rfl (fun c21 => ?_) (fun c21 => ?_)
    · -- then
      refine AW.rs ?_
      refine AL.val rfl (.inl rfl) (HV.as rfl) ?_
      refine AL.val rfl (.inl rfl) (HV.as rfl) ?_
      refine AL.nx ?_
      refine AW.ret ?_
      refine ret_blk (ret_and ?_)
      refine post_two rfl rfl rfl ?_ (.inr rfl)
      exfalso; first | exact c21 hv | exact c21 ⟨hv.1, elems_one.2 hx⟩
    · -- else
      refine AW.rs ?_
      refine AL.val rfl (.inl rfl) (HV.mv rfl) ?_
      refine AL.val rfl (.inl rfl) (HV.len Try.underlying82 rfl hr.isSl) ?_
      refine AL.val rfl (.inl rfl) (HV.eqi rfl rfl) ?_
      refine AL.val rfl (.inl rfl) (HV.as rfl) ?_
      refine AL.nx ?_
      refine AW.ifd rfl (fun c22 => ?_) (fun c22 => ?_)
      · -- then
        refine AW.rs ?_
        refine AL.val rfl (.inl rfl) (HV.as rfl) ?_
        refine AL.val rfl (.inl rfl) (HV.as rfl) ?_
        refine AL.nx ?_
        refine AW.ret ?_
        refine ret_blk (ret_and ?_)
        refine post_two rfl rfl rfl ?_ (.inr rfl)
        exact ⟨by rw [if_pos (by assumption), if_pos (by assumption)], X18⟩
      · -- else
        refine AW.skip ?_
        refine nrm_blk (nrm_and ?_)
        refine AW.rs ?_
        refine AL.val rfl (.inl rfl) (HV.mv rfl) ?_
        refine AL.val rfl (.inl rfl) (HV.mv rfl) ?_
        refine AL.val rfl (.inl rfl) (HV.mv rfl) ?_
        refine AL.w rfl (.inl rfl) (WV.call fn128 rfl (openAt_ok (hr.ext X18) hv x hx)) ?_
        rintro _ H23 ⟨rfl, hx24⟩
        have X25 := Ext.trans X18 hx24
        have X26 := Ext.trans X19 hx24
        have ho27 := ho20.ext hx24
        refine AL.val rfl (.inl rfl) (HV.as rfl) ?_
        refine AL.val rfl (.inl rfl) (HV.as rfl) ?_
        refine AL.nx ?_
        refine AW.ret ?_
        refine post_two rfl rfl rfl ?_ (.inr rfl)
        exact ⟨by rw [if_neg (by assumption), if_neg (by assumption)], X25⟩

set_option maxRecDepth 100000 in
theorem dealI_ok {v vp : Value} {l pts : List Int} {ok ok3 : Nat → Prop} (p : Int) (hr : RdK kI W H ok v l) (hr3 : RdK kI W H ok3 vp pts) (hq : primeI p ∧ curveI p l) (hpt : ptsI p pts) : ACalls Try.prog W 54 #[.int .i64 p, v, vp] H (fun r H' => (∃ v, r = .tuple #[v, .int .i64 0] ∧ OwnK (kP kI kI) 86 W H' (fun b => H.bd ≤ b) v (pts.map (fun x => (x, val p l x)))) ∧ Ext H H') := by
  refine ACalls.of (args := [.int .i64 p, v, vp]) Try.func54 rfl rfl ?_
  have X0 := Ext.refl H
  have hm1 := hr.max
  have hm2 := hr3.max
  have hp := hq.1.1
  have hc := hq.2.2.1
  have hl10 := hpt.1
  refine AW.rs ?_
  refine AL.val rfl (.inl rfl) (HV.as rfl) ?_
  refine AL.val rfl (.inl rfl) (HV.as rfl) ?_
  refine AL.nx ?_
  refine AW.seq ?_
  refine AW.rs ?_
  refine AL.val rfl (.inl rfl) (HV.mv rfl) ?_
  refine AL.val rfl (.inl rfl) (HV.mv rfl) ?_
  refine AL.w rfl (.inl rfl) (WV.call fn123 rfl (validCu_ok (p := p) hr)) ?_
  rintro _ H3 ⟨rfl, hx4⟩
  have X5 := Ext.trans X0 hx4
  refine AL.val rfl (.inl rfl) (HV.not rfl) ?_
  refine AL.nx ?_
  refine AW.ifn rfl (fun c6 => ?_) (fun c6 => ?_)
  · -- then
    refine AW.rs ?_
    refine AL.val rfl (.inl rfl) (HV.as rfl) ?_
    refine AL.val rfl (.inl rfl) (HV.as rfl) ?_
    refine AL.nx ?_
    refine AW.ret ?_
    refine ret_and ?_
    refine post_two rfl rfl rfl ?_ (.inr rfl)
    exfalso; first | exact c6 hq | exact c6 hpt
  · -- else
    refine AW.skip ?_
    refine nrm_and ?_
    refine AW.seq ?_
    refine AW.rs ?_
    refine AL.val rfl (.inl rfl) (HV.mv rfl) ?_
    refine AL.val rfl (.inl rfl) (HV.mv rfl) ?_
    refine AL.w rfl (.inl rfl) (WV.call fn124 rfl (arePts_ok (hr3.ext X5) hq.1.1)) ?_
    rintro _ H7 ⟨rfl, hx8⟩
    have X9 := Ext.trans X5 hx8
    refine AL.val rfl (.inl rfl) (HV.not rfl) ?_
    refine AL.nx ?_
    refine AW.ifn rfl (fun c10 => ?_) (fun c10 => ?_)
    · -- then
      refine AW.rs ?_
      refine AL.val rfl (.inl rfl) (HV.as rfl) ?_
      refine AL.val rfl (.inl rfl) (HV.as rfl) ?_
      refine AL.nx ?_
      refine AW.ret ?_
      refine ret_and ?_
      refine post_two rfl rfl rfl ?_ (.inr rfl)
      exfalso; first | exact c10 hq | exact c10 hpt
    · -- else
      refine AW.skip ?_
      refine nrm_and ?_
      refine AW.rs ?_
      have X11 := Ext.refl H7
      have o12 := X9.bd
      have o13 := X11.bd
      refine AL.w rfl (.inl rfl) (WV.bsK (K := (kP kI kI)) (l := ([] : List (Int × Int))) (css := []) sl82 rfl rfl (by first | rfl | (simp [Instr.fill, Value.cells, kI, kB, kU, kU8, kS, Kd.sc]; done) | (simp [Instr.fill, Value.cells, kI, kB, kU, kU8, kS, Kd.sc, rng1, rng2, rng3, rng4, kP])) rfl segs_nil) ?_
      rintro v14 H15 ⟨hx16, ho17⟩
      have X18 := Ext.trans X9 hx16
      have X19 := Ext.trans X11 hx16
      refine AL.val rfl (.inl rfl) (HV.as rfl) ?_
      refine AL.nx ?_
      refine AW.seq ?_
      refine AW.rs ?_
      refine AL.val rfl (.inl rfl) (HV.mv rfl) ?_
      refine AL.val rfl (.inl rfl) (HV.len Try.underlying22 rfl hr3.isSl) ?_
      refine AL.val rfl (.inl rfl) (HV.mv rfl) ?_
      refine AL.nx ?_
      refine AW.block ?_
      refine AW.loop (σ := Nat × Value × List (Int × Int)) (fun ⟨i, vv, k⟩ => [(0, .int .i64 p), (1, v), (6, (.slice none 0 0)), (7, .int .i64 0), (20, vp), (21, .int .i64 (pts.length : Int)), (8, vv), (22, .int .i64 (i : Int))]) (fun ⟨i, vv, k⟩ H' => Ext H H' ∧ Ext H7 H' ∧ i ≤ pts.length ∧ k = (pts.take i).map (fun x => (x, val p l x)) ∧ k.length = i ∧ OwnK (kP kI kI) 86 W H' (fun b => H7.bd ≤ b) vv k ∧ True) (fun ⟨i, vv, k⟩ => pts.length - i) (0, v14, (([] : List (Int × Int)) : List (Int × Int))) ⟨X18, X19, Nat.zero_le _, rfl, rfl, ho17, trivial⟩ ⟨rfl, rfl, rfl, rfl, rfl, rfl, rfl, rfl, trivial⟩ ?_
      rintro ⟨i, vv, k⟩ H21 ⟨X22, X23, hi, hk, hk2, hoL, _⟩
      refine AW.rs ?_
      refine AL.val rfl (.inl rfl) (HV.lti rfl rfl) ?_
      refine AL.nx ?_
      refine AW.seq ?_
      refine AW.ifd rfl (fun c24 => ?_) (fun c24 => ?_)
      · -- then
        refine AW.skip ?_
        refine nrm_and ?_
        refine AW.seq ?_
        refine AW.block ?_
        refine AW.rs ?_
        obtain ⟨p25, z26, cs27, hz28, hK29, hC30, hP31⟩ := RdK.ix (q := (i : Int)) hr3 sl22 (by omega) (by omega)
        obtain rfl : cs27 = [.int .i64 z26] := hK29
        refine AL.val rfl (.inl rfl) (hP31 rfl rfl) ?_
        refine AL.val rfl (.inl rfl) (HV.ld rfl va2 (cells_first (hC30.ext X22) rfl)) ?_
        refine AL.val rfl (.inl rfl) (HV.as rfl) ?_
        refine AL.nx ?_
        refine AW.reg ?_
        refine AL.val rfl (.inl rfl) (HV.mv rfl) ?_
        refine AL.val rfl (.inl rfl) (HV.mv rfl) ?_
        refine AL.val rfl (.inl rfl) (HV.mv rfl) ?_
        refine AL.val rfl (.inl rfl) (HV.mv rfl) ?_
        refine AL.val rfl (.inl rfl) (HV.mv rfl) ?_
        refine AL.w rfl (.inl rfl) (WV.call fn125 rfl (curveAt_ok (hr.ext X22) z26 hp (by have q := ris_at hpt.2 hz28; omega) hc)) ?_
        rintro _ H32 ⟨rfl, hx33⟩
        have X34 := Ext.trans X22 hx33
        have X35 := Ext.trans X23 hx33
        have ho36 := hoL.ext hx33
        refine AL.val rfl (.inl rfl) (HV.bd rfl (bd86_0_1 z26 (val p l z26))) ?_
        have X37 := Ext.refl H32
        have o38 := X34.bd
        have o39 := X35.bd
        have o40 := X37.bd
        have a41 := ho36.ltb
        refine AL.w rfl (.inl rfl) (WV.bsK (K := (kP kI kI)) (l := ([((z26, val p l z26) : (Int × Int))] : List (Int × Int))) (css := [[.int .i64 z26, .int .i64 (val p l z26)]]) sl82 rfl rfl (by first | rfl | (simp [Instr.fill, Value.cells, kI, kB, kU, kU8, kS, Kd.sc]; done) | (simp [Instr.fill, Value.cells, kI, kB, kU, kU8, kS, Kd.sc, rng1, rng2, rng3, rng4, kP])) rfl (segs_cons ⟨[.int .i64 z26], [.int .i64 (val p l z26)], rfl, rfl, rfl⟩ segs_nil)) ?_
        rintro v42 H43 ⟨hx44, ho45⟩
        have X46 := Ext.trans X34 hx44
        have X47 := Ext.trans X35 hx44
        have X48 := Ext.trans X37 hx44
        have ho49 := ho36.ext hx44
        have X51 := Ext.refl H43
        refine AL.w rfl (.inl rfl) (WV.apk sl82 rfl rfl ho49 ho45.rd (by rw [hk2]; simp; omega) (by rw [hk2]; simp; omega) (fun b hb _ e => Nat.lt_irrefl _ (Nat.lt_of_lt_of_le (a41 b e) hb))) ?_
        rintro v52 H53 ⟨hx54, ho55, hb56⟩
        have ho57 := ho55.narrow (ok' := fun b => H7.bd ≤ b) (kP_flat kI_flat kI_flat) (fun b q => (hb56 b q).elim (fun e => (ho49.blk b e).1) (fun e => Nat.le_trans X47.bd e))
        have X58 := Ext.thru X46 hx54 (fun b hb => Nat.le_trans o12 (ho49.blk b hb).1)
        have X59 := Ext.thru X47 hx54 (fun b hb => Nat.le_trans o13 (ho49.blk b hb).1)
        refine AL.val rfl (.inl rfl) (HV.as rfl) ?_
        refine AL.nil ?_
        refine nrm_blk (nrm_and ?_)
        refine AW.reg ?_
        refine AL.val rfl (.inl rfl) (HV.add rfl rfl (by omega)) ?_
        refine AL.val rfl (.inl rfl) (HV.mv rfl) ?_
        refine AL.nil ?_
        refine nrm_and ?_
        exact ⟨(i + 1, v52, (k ++ (([((z26, val p l z26) : (Int × Int))] : List (Int × Int)) : List (Int × Int)))), ⟨X58, X59, by omega, by rw [mapS_snoc hz28, hk], by simp [hk2], ho57, trivial⟩, by first | omega | (dsimp only; omega), ⟨rfl, rfl, rfl, rfl, rfl, rfl, rfl, rfl, trivial⟩⟩
      · -- else
        refine AW.exit ?_
        refine ex_and (ex_and (ex_blk ?_))
        refine nrm_and ?_
        refine AW.rs ?_
        refine AL.val rfl (.inl rfl) (HV.mv rfl) ?_
        refine AL.val rfl (.inl rfl) (HV.as rfl) ?_
        refine AL.val rfl (.inl rfl) (HV.as rfl) ?_
        refine AL.nx ?_
        refine AW.ret ?_
        refine post_two rfl rfl rfl ?_ (.inr rfl)
        exact ⟨⟨_, rfl, by have e : pts.take i = pts := List.take_of_length_le (by omega); have q := hoL.okk (fun b hb _ => Nat.le_trans o12 hb); rw [hk, e] at q; exact q⟩, X22⟩
end Go.Proofs.Yticobjbjejpomaa.VC

