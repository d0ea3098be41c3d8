/- Walks. -/
import Derived.Test.YteajnanbfkcdcaaDoorVF1
set_option linter.unusedVariables false
set_option linter.unusedSimpArgs false
namespace Go.Proofs.YteajnanbfkcdcaaDoor.VC
open Go Go.RowKit
theorem decL_len (a : Int) : 1 ≤ (decL a).length ∧ (decL a).length ≤ 2 := by unfold decL; split <;> simp
def wordsL (l : List Int) : List Int := l.flatMap (fun x => 32 :: decL x)
theorem wordsL_snoc {l : List Int} {i : Nat} {z : Int} (h : l[i]? = some z) : wordsL (l.take (i + 1)) = wordsL (l.take i) ++ 32 :: decL z := by
  obtain ⟨hi, rfl⟩ := List.getElem?_eq_some_iff.1 h
  unfold wordsL
  rw [List.take_succ_eq_append_getElem hi, List.flatMap_append]
  simp
theorem wordsL_len (l : List Int) : (wordsL l).length ≤ 3 * l.length := by
  induction l with
  | nil => simp [wordsL]
  | cons a l ih =>
    have h : wordsL (a :: l) = (32 :: decL a) ++ wordsL l := rfl
    have := (decL_len a).2
    rw [h, List.length_append, List.length_cons, List.length_cons]; omega
def grpT (l : List Int) : List Int := if l.length = 0 then [45] else l.map (65 + ·)
theorem grpT_len (l : List Int) : (grpT l).length ≤ l.length + 1 := by unfold grpT; split <;> simp
theorem u8_id {a : Int} (h : 0 ≤ a ∧ a < 256) : IntKind.u8.wrap a = a := by
  simp [IntKind.wrap, IntKind.signed, IntKind.bits, Int.emod_eq_of_lt h.1 h.2]
theorem ris_in {l : List Int} {q z : Int} (h : Ris 0 (7 - 1) l) (hz : l[q.toNat]? = some z) : 0 ≤ z ∧ z ≤ 6 := by
  have hq := (List.getElem?_eq_some_iff.1 hz).1
  have := h q.toNat hq
  have e : l.getD q.toNat 0 = z := by rw [List.getD_eq_getElem?_getD, hz]; rfl
  rw [RisAt, e] at this
  omega
theorem ris_ge {l : List Int} (h : Ris 0 (7 - 1) l) : ∀ j, j < l.length → (j : Int) ≤ l.getD j 0
  | 0, hj => by have := h 0 hj; unfold RisAt at this; omega
  | j + 1, hj => by
    have h1 := ris_ge h j (by omega)
    have := h (j + 1) hj
    unfold RisAt at this
    have := this.2.2 (by omega)
    simp only [Nat.add_sub_cancel] at this
    omega
theorem ris7 {l : List Int} (h : Ris 0 (7 - 1) l) : l.length ≤ 7 := by
  rcases Nat.eq_zero_or_pos l.length with h0 | h0
  · omega
  · have h1 := ris_ge h (l.length - 1) (by omega)
    have h2 := h (l.length - 1) (by omega)
    unfold RisAt at h2
    omega
theorem sz_c (c : ByteArray) (l : List Int) : (c ++ bytesOf l).size = c.size + l.length := by rw [ByteArray.size_append, bytesOf_size]
theorem ris_one {z : Int} (h : 0 ≤ z ∧ z ≤ 6) : Ris 0 (7 - 1) [z] := fun j hj => by
  have : j = 0 := by simp at hj; omega
  subst this
  exact ⟨h.1, by show z ≤ _; omega, fun q => by omega⟩
theorem grp_one (z : Int) : grpT [z] = [65 + z] := rfl
theorem bsz (l : List UInt8) : (ByteArray.mk l.toArray).size = l.length := rfl
def txtR (n p k : Int) (o : List Int) (l : List (List Int)) (i : Nat) : List Int := [115, 99, 104, 101, 109, 101] ++ wordsL [n, p, k] ++ [10] ++ (List.range i).flatMap (fun j => [114, 111, 119, 32] ++ grpT [o.getD j 0] ++ wordsL (l.getD j []) ++ [10])
theorem txtR_zero (n p k : Int) (o : List Int) (l : List (List Int)) : txtR n p k o l 0 = [115, 99, 104, 101, 109, 101] ++ wordsL [n, p, k] ++ [10] := by simp [txtR]
theorem txtR_succ (n p k : Int) (o : List Int) (l : List (List Int)) (i : Nat) : txtR n p k o l (i + 1) = txtR n p k o l i ++ ([114, 111, 119, 32] ++ grpT [o.getD i 0] ++ wordsL (l.getD i []) ++ [10]) := by
  unfold txtR
  rw [List.range_succ, List.flatMap_append]
  simp
theorem words3 (n p k : Int) : wordsL [n, p, k] = 32 :: decL n ++ (32 :: decL p ++ (32 :: decL k)) := by simp [wordsL]
theorem words3_len (n p k : Int) : (wordsL [n, p, k]).length ≤ 9 := wordsL_len _
noncomputable def schT (n : Int) (o : List Int) (p k : Int) (l : List (List Int)) : ByteArray := if okSc n o p k l then bytesOf (txtR n p k o l o.length) else bytesOf []
variable {W : World} {H : Hp}

set_option maxRecDepth 100000 in
theorem fmtI_ok (a : Int) (ha : 0 ≤ a ∧ a < 100) : ACalls Tryd.prog W 72 #[.int .i64 a, .int .i64 10] H (fun r H' => r = .string (bytesOf (decL a)) ∧ Ext H H') := by
  refine ACalls.of (args := [.int .i64 a, .int .i64 10]) Tryd.func72 rfl rfl ?_
  have X0 := Ext.refl H
  refine AW.rs ?_
  refine AL.val rfl (.inl rfl) (HV.as rfl) ?_
  refine AL.nx ?_
  refine AW.seq ?_
  refine AW.rs ?_
  refine AL.val rfl (.inl rfl) (HV.mv rfl) ?_
  refine AL.val rfl (.inl rfl) (HV.eqi rfl rfl) ?_
  refine AL.nx ?_
  refine AW.cond rfl (fun _ => ?_) (fun h => by cases h)
  refine AW.seq ?_
  refine AW.rs ?_
  refine AL.val rfl (.inl rfl) (HV.mv rfl) ?_
  refine AL.val rfl (.inl rfl) (HV.lei rfl rfl) ?_
  refine AL.val rfl (.inl rfl) (HV.mv rfl) ?_
  by_cases c2 : (0 : Int) ≤ a
  · -- true
    have c2_ : decide ((0 : Int) ≤ a) = true := decide_eq_true c2
    rw [c2_]
    refine AL.val rfl (.inr ⟨_, _, _, rfl, rfl, rfl⟩) (HV.mv rfl) ?_
    refine AL.val rfl (.inr ⟨_, _, _, rfl, rfl, rfl⟩) (HV.lti rfl rfl) ?_
    refine AL.val rfl (.inl rfl) (HV.pickT rfl rfl) ?_
    refine AL.nx ?_
    refine AW.ifd rfl (fun c3 => ?_) (fun c3 => ?_)
    · -- then
      refine AW.rs ?_
      refine AL.val rfl (.inl rfl) (HV.mv rfl) ?_
      refine AL.w rfl (.inl rfl) (WV.call fn78 rfl (small_ok (W := W) a (by omega))) ?_
      rintro _ H4 ⟨rfl, hx5⟩
      have X6 := Ext.trans X0 hx5
      refine AL.val rfl (.inl rfl) (HV.as rfl) ?_
      refine AL.nx ?_
      refine AW.ret ?_
      refine ret_and (ret_and ?_)
      refine post_one rfl rfl ?_ (.inr rfl)
      exact ⟨rfl, X6⟩
    · -- else
      refine AW.skip ?_
      refine nrm_and ?_
      refine AW.rs ?_
      exfalso; omega
  · -- false
    have c2_ : decide ((0 : Int) ≤ a) = false := decide_eq_false c2
    rw [c2_]
    refine AL.off rfl rfl (by decide) rfl ?_
    refine AL.off rfl rfl (by decide) rfl ?_
    refine AL.val rfl (.inl rfl) (HV.pickF rfl rfl) ?_
    refine AL.nx ?_
    refine AW.cond rfl (fun h => by cases h) (fun _ => ?_)
    refine AW.skip ?_
    refine nrm_and ?_
    refine AW.rs ?_
    exfalso; omega

set_option maxRecDepth 100000 in
theorem fmt_ok (a : Int) (ha : 0 ≤ a ∧ a < 100) : ACalls Tryd.prog W 56 #[.int .i64 a, .int .i64 10] H (fun r H' => r = .string (bytesOf (decL a)) ∧ Ext H H') := by
  refine ACalls.of (args := [.int .i64 a, .int .i64 10]) Tryd.func56 rfl rfl ?_
  have X0 := Ext.refl H
  refine AW.rs ?_
  refine AL.val rfl (.inl rfl) (HV.as rfl) ?_
  refine AL.nx ?_
  refine AW.rs ?_
  refine AL.val rfl (.inl rfl) (HV.mv rfl) ?_
  refine AL.val rfl (.inl rfl) (HV.mv rfl) ?_
  refine AL.w rfl (.inl rfl) (WV.call fn72 rfl (fmtI_ok (W := W) a (by omega))) ?_
  rintro _ H1 ⟨rfl, hx2⟩
  have X3 := Ext.trans X0 hx2
  refine AL.val rfl (.inl rfl) (HV.as rfl) ?_
  refine AL.nx ?_
  refine AW.ret ?_
  refine post_one rfl rfl ?_ (.inr rfl)
  exact ⟨rfl, X3⟩

set_option maxRecDepth 100000 in
theorem decimal_ok (a : Int) (ha : 0 ≤ a ∧ a < 100) : ACalls Tryd.prog W 42 #[.int .i64 a] H (fun r H' => r = .string (bytesOf (decL a)) ∧ Ext H H') := by
  refine ACalls.of (args := [.int .i64 a]) Tryd.func42 rfl rfl ?_
  have X0 := Ext.refl H
  refine AW.rs ?_
  refine AL.val rfl (.inl rfl) (HV.as rfl) ?_
  refine AL.nx ?_
  refine AW.rs ?_
  refine AL.val rfl (.inl rfl) (HV.mv rfl) ?_
  refine AL.w rfl (.inl rfl) (WV.call fn56 rfl (fmt_ok (W := W) a (by omega))) ?_
  rintro _ H1 ⟨rfl, hx2⟩
  have X3 := Ext.trans X0 hx2
  refine AL.val rfl (.inl rfl) (HV.as rfl) ?_
  refine AL.nx ?_
  refine AW.ret ?_
  refine post_one rfl rfl ?_ (.inr rfl)
  exact ⟨rfl, X3⟩

set_option maxRecDepth 100000 in
theorem grpTextI_ok {v : Value} {l : List Int} {ok : Nat → Prop} (hr : RdK kI W H ok v l) (hg : Ris 0 (7 - 1) l) : ACalls Tryd.prog W 30 #[v] H (fun r H' => r = .string (bytesOf (grpT l)) ∧ Ext H H') := by
  refine ACalls.of (args := [v]) Tryd.func30 rfl rfl ?_
  have X0 := Ext.refl H
  have hm1 := hr.max
  refine AW.rs ?_
  refine AL.val rfl (.inl rfl) (HV.as rfl) ?_
  refine AL.nx ?_
  refine AW.seq ?_
  refine AW.rs ?_
  refine AL.val rfl (.inl rfl) (HV.mv rfl) ?_
  refine AL.val rfl (.inl rfl) (HV.len Tryd.underlying22 rfl hr.isSl) ?_
  refine AL.val rfl (.inl rfl) (HV.eqi rfl rfl) ?_
  refine AL.nx ?_
  refine AW.ifd rfl (fun c2 => ?_) (fun c2 => ?_)
  · -- then
    refine AW.rs ?_
    refine AL.val rfl (.inl rfl) (HV.as rfl) ?_
    refine AL.nx ?_
    refine AW.ret ?_
    refine ret_and ?_
    refine post_one rfl rfl ?_ (.inr rfl)
    exact ⟨by unfold grpT; rw [if_pos (by omega)]; rfl, X0⟩
  · -- else
    refine AW.skip ?_
    refine nrm_and ?_
    refine AW.rs ?_
    have o3 := X0.bd
    refine AL.w rfl (.inl rfl) (WV.bsK (K := kU8) (l := ([] : List Int)) (css := []) sl72 rfl rfl (by first | rfl | (simp [Instr.fill, Value.cells, kI, kB, kU, kU8, kS, Kd.sc]; done) | (simp [Instr.fill, Value.cells, kI, kB, kU, kU8, kS, Kd.sc, rng1, rng2, rng3, rng4, kP])) rfl segs_nil) ?_
    rintro v4 H5 ⟨hx6, ho7⟩
    have X8 := Ext.trans X0 hx6
    refine AL.val rfl (.inl rfl) (HV.as rfl) ?_
    refine AL.nx ?_
    refine AW.seq ?_
    refine AW.rs ?_
    refine AL.val rfl (.inl rfl) (HV.mv rfl) ?_
    refine AL.val rfl (.inl rfl) (HV.len Tryd.underlying22 rfl hr.isSl) ?_
    refine AL.val rfl (.inl rfl) (HV.mv rfl) ?_
    refine AL.nx ?_
    refine AW.block ?_
    refine AW.loop (σ := Nat × Value × List Int) (fun ⟨i, vv, k⟩ => [(2, .string ⟨#[]⟩), (10, v), (11, .int .i64 (l.length : Int)), (3, vv), (12, .int .i64 (i : Int))]) (fun ⟨i, vv, k⟩ H' => Ext H H' ∧ i ≤ l.length ∧ k = (l.take i).map (65 + ·) ∧ k.length = i ∧ OwnK kU8 5 W H' (fun b => H.bd ≤ b) vv k ∧ True) (fun ⟨i, vv, k⟩ => l.length - i) (0, v4, (([] : List Int) : List Int)) ⟨X8, Nat.zero_le _, rfl, rfl, ho7, trivial⟩ ⟨rfl, rfl, rfl, rfl, rfl, trivial⟩ ?_
    rintro ⟨i, vv, k⟩ H10 ⟨X11, hi, hk, hk2, hoL, _⟩
    have hl7 := ris7 hg
    refine AW.rs ?_
    refine AL.val rfl (.inl rfl) (HV.lti rfl rfl) ?_
    refine AL.nx ?_
    refine AW.seq ?_
    refine AW.ifd rfl (fun c12 => ?_) (fun c12 => ?_)
    · -- then
      refine AW.skip ?_
      refine nrm_and ?_
      refine AW.seq ?_
      refine AW.block ?_
      refine AW.rs ?_
      obtain ⟨p13, z14, cs15, hz16, hK17, hC18, hP19⟩ := RdK.ix (q := (i : Int)) hr sl22 (by omega) (by omega)
      obtain rfl : cs15 = [.int .i64 z14] := hK17
      refine AL.val rfl (.inl rfl) (hP19 rfl rfl) ?_
      refine AL.val rfl (.inl rfl) (HV.ld rfl va2 (cells_first (hC18.ext X11) rfl)) ?_
      refine AL.val rfl (.inl rfl) (HV.as rfl) ?_
      refine AL.nx ?_
      refine AW.reg ?_
      refine AL.val rfl (.inl rfl) (HV.mv rfl) ?_
      refine AL.val rfl (.inl rfl) (HV.mv rfl) ?_
      refine AL.val rfl (.inl rfl) (HV.add rfl rfl (by have := (ris_in hg hz16); omega)) ?_
      refine AL.val rfl (.inl rfl) (HV.cve (by rw [Tryd.underlying2]; rfl) Tryd.underlying5 rfl (u8_id (by have := (ris_in hg hz16); omega))) ?_
      have X20 := Ext.refl H10
      have o21 := X11.bd
      have o22 := X20.bd
      have a23 := hoL.ltb
      refine AL.w rfl (.inl rfl) (WV.bsK (K := kU8) (l := ([65 + z14] : List Int)) (css := [[.int .u8 (65 + z14)]]) sl72 rfl rfl (by first | rfl | (simp [Instr.fill, Value.cells, kI, kB, kU, kU8, kS, Kd.sc]; done) | (simp [Instr.fill, Value.cells, kI, kB, kU, kU8, kS, Kd.sc, rng1, rng2, rng3, rng4, kP])) rfl (segs_cons rfl segs_nil)) ?_
      rintro v24 H25 ⟨hx26, ho27⟩
      have X28 := Ext.trans X11 hx26
      have X29 := Ext.trans X20 hx26
      have ho30 := hoL.ext hx26
      have X32 := Ext.refl H25
      refine AL.w rfl (.inl rfl) (WV.apk sl72 rfl rfl ho30 ho27.rd (by have := ris7 hg; simp [hk2]; omega) (by have := ris7 hg; simp [hk2]; omega) (fun b hb _ e => Nat.lt_irrefl _ (Nat.lt_of_lt_of_le (a23 b e) hb))) ?_
      rintro v33 H34 ⟨hx35, ho36, hb37⟩
      have ho38 := ho36.narrow (ok' := fun b => H.bd ≤ b) kU8_flat (fun b q => (hb37 b q).elim (fun e => (ho30.blk b e).1) (fun e => Nat.le_trans X28.bd e))
      have X39 := Ext.thru X28 hx35 (fun b hb => Nat.le_trans o3 (ho30.blk b hb).1)
      refine AL.val rfl (.inl rfl) (HV.as rfl) ?_
      refine AL.nil ?_
      refine nrm_blk (nrm_and ?_)
      refine AW.reg ?_
      refine AL.val rfl (.inl rfl) (HV.add rfl rfl (by omega)) ?_
      refine AL.val rfl (.inl rfl) (HV.mv rfl) ?_
      refine AL.nil ?_
      refine nrm_and ?_
      exact ⟨(i + 1, v33, (k ++ (([65 + z14] : List Int) : List Int))), ⟨X39, by omega, by rw [map_snoc (f := (65 + ·)) hz16, hk], by simp [hk2], ho38, trivial⟩, by first | omega | (dsimp only; omega), ⟨rfl, rfl, rfl, rfl, rfl, trivial⟩⟩
    · -- else
      refine AW.exit ?_
      refine ex_and (ex_and (ex_blk ?_))
      refine nrm_and ?_
      refine AW.rs ?_
      refine AL.val rfl (.inl rfl) (HV.mv rfl) ?_
      refine AL.val rfl (.inl rfl) (HV.cvb Tryd.underlying72 Tryd.underlying5 Tryd.underlying9 rfl hoL.rd) ?_
      refine AL.val rfl (.inl rfl) (HV.as rfl) ?_
      refine AL.nx ?_
      refine AW.ret ?_
      refine post_one rfl rfl ?_ (.inr rfl)
      exact ⟨congrArg Value.string (by unfold grpT; rw [if_neg (by omega), hk, List.take_of_length_le (by omega)]), X11⟩

set_option maxRecDepth 100000 in
theorem words_ok {v : Value} {l : List Int} {ok : Nat → Prop} (s : ByteArray) (hr : RdK kI W H ok v l) (hs : s.size ≤ 100) (hl : l.length ≤ 20) (hb : ∀ x ∈ l, 0 ≤ x ∧ x < 100) : ACalls Tryd.prog W 28 #[.string s, v] H (fun r H' => r = .string (s ++ bytesOf (wordsL l)) ∧ Ext H H') := by
  refine ACalls.of (args := [.string s, v]) Tryd.func28 rfl rfl ?_
  have X0 := Ext.refl H
  have hm1 := hr.max
  refine AW.rs ?_
  refine AL.val rfl (.inl rfl) (HV.as rfl) ?_
  refine AL.nx ?_
  refine AW.rs ?_
  refine AL.val rfl (.inl rfl) (HV.mv rfl) ?_
  refine AL.val rfl (.inl rfl) (HV.as rfl) ?_
  refine AL.nx ?_
  refine AW.seq ?_
  refine AW.rs ?_
  refine AL.val rfl (.inl rfl) (HV.mv rfl) ?_
  refine AL.val rfl (.inl rfl) (HV.len Tryd.underlying22 rfl hr.isSl) ?_
  refine AL.val rfl (.inl rfl) (HV.mv rfl) ?_
  refine AL.nx ?_
  refine AW.block ?_
  refine AW.loop (σ := Nat × ByteArray) (fun ⟨i, t⟩ => [(4, .string (bytesOf [])), (9, v), (10, .int .i64 (l.length : Int)), (5, .string t), (11, .int .i64 (i : Int))]) (fun ⟨i, t⟩ H' => Ext H H' ∧ i ≤ l.length ∧ t = s ++ bytesOf (wordsL (l.take i)) ∧ t.size ≤ 100 + 3 * i ∧ True) (fun ⟨i, t⟩ => l.length - i) (0, s) ⟨X0, Nat.zero_le _, (ByteArray.append_empty).symm, by omega, trivial⟩ ⟨rfl, rfl, rfl, rfl, rfl, trivial⟩ ?_
  rintro ⟨i, t⟩ H2 ⟨X3, hi, ht, hts, _⟩
  refine AW.rs ?_
  refine AL.val rfl (.inl rfl) (HV.lti rfl rfl) ?_
  refine AL.nx ?_
  refine AW.seq ?_
  refine AW.ifd rfl (fun c4 => ?_) (fun c4 => ?_)
  · -- then
    refine AW.skip ?_
    refine nrm_and ?_
    refine AW.seq ?_
    refine AW.block ?_
    refine AW.rs ?_
    obtain ⟨p5, z6, cs7, hz8, hK9, hC10, hP11⟩ := RdK.ix (q := (i : Int)) hr sl22 (by omega) (by omega)
    obtain rfl : cs7 = [.int .i64 z6] := hK9
    refine AL.val rfl (.inl rfl) (hP11 rfl rfl) ?_
    refine AL.val rfl (.inl rfl) (HV.ld rfl va2 (cells_first (hC10.ext X3) rfl)) ?_
    refine AL.val rfl (.inl rfl) (HV.as rfl) ?_
    refine AL.nx ?_
    refine AW.reg ?_
    refine AL.val rfl (.inl rfl) (HV.mv rfl) ?_
    refine AL.val rfl (.inl rfl) (HV.mv rfl) ?_
    have hbz := hb _ (List.mem_of_getElem? hz8)
    have hdl12 := (decL_len z6).2
    refine AL.w rfl (.inl rfl) (WV.call fn42 rfl (decimal_ok (W := W) z6 (by omega))) ?_
    rintro _ H13 ⟨rfl, hx14⟩
    have X15 := Ext.trans X3 hx14
    refine AL.val rfl (.inl rfl) (HV.adds rfl rfl (by simp only [ByteArray.size_append, bytesOf_size, bsz, List.length_append, List.length_cons, List.length_nil]; omega)) ?_
    refine AL.val rfl (.inl rfl) (HV.adds rfl rfl (by simp only [ByteArray.size_append, bytesOf_size, bsz, List.length_append, List.length_cons, List.length_nil]; omega)) ?_
    refine AL.val rfl (.inl rfl) (HV.as rfl) ?_
    refine AL.nil ?_
    refine nrm_blk (nrm_and ?_)
    refine AW.reg ?_
    refine AL.val rfl (.inl rfl) (HV.add rfl rfl (by omega)) ?_
    refine AL.val rfl (.inl rfl) (HV.mv rfl) ?_
    refine AL.nil ?_
    refine nrm_and ?_
    exact ⟨(i + 1, (t ++ ((bytesOf [32]) ++ (bytesOf (decL z6))))), ⟨X15, by omega, by rw [wordsL_snoc (getq hz8 rfl), bytesOf_app, ht, ByteArray.append_assoc, ← bytesOf_app [32]]; rfl, by simp only [ByteArray.size_append, bytesOf_size, bsz, List.length_append, List.length_cons, List.length_nil]; omega, trivial⟩, by first | omega | (dsimp only; omega), ⟨rfl, rfl, rfl, rfl, rfl, trivial⟩⟩
  · -- else
    refine AW.exit ?_
    refine ex_and (ex_and (ex_blk ?_))
    refine nrm_and ?_
    refine AW.rs ?_
    refine AL.val rfl (.inl rfl) (HV.mv rfl) ?_
    refine AL.val rfl (.inl rfl) (HV.as rfl) ?_
    refine AL.nx ?_
    refine AW.ret ?_
    refine post_one rfl rfl ?_ (.inr rfl)
    exact ⟨congrArg Value.string (by rw [ht, List.take_of_length_le (by omega)]), X3⟩

set_option maxRecDepth 100000 in
theorem implSX_ok {vo v : Value} {o : List Int} {l : List (List Int)} {oko ok : Nat → Prop} (n p k : Int) (ho : RdK kI W H oko vo o) (hr : RdK (kR kI) W H ok v l) : ACalls Tryd.prog W 15 #[.agg #[.int .i64 n, vo, .int .i64 p, .int .i64 k, v]] H (fun r H' => r = .string (schT n o p k l) ∧ Ext H H') := by
  refine ACalls.of (args := [.agg #[.int .i64 n, vo, .int .i64 p, .int .i64 k, v]]) Tryd.func15 rfl rfl ?_
  have X0 := Ext.refl H
  have hm1 := ho.max
  have hm2 := hr.max
  refine AW.rs ?_
  refine AL.w rfl (.inl rfl) (WV.bx rfl rfl) ?_
  rintro _ H4 ⟨b3, rfl, hx5, hn6, hb7⟩
  have o8 := Nat.le_trans X0.bd hn6
  have X9 := Ext.trans X0 hx5
  have X10 := Ext.refl H4
  refine AL.val rfl (.inl rfl) (HV.as rfl) ?_
  refine AL.nx ?_
  refine AW.seq ?_
  refine AW.rs ?_
  refine AL.val rfl (.inl rfl) (HV.lda (cs := [.int .i64 n, vo, .int .i64 p, .int .i64 k, v]) rfl va27 (at_cells hb7 rfl)) ?_
  refine AL.w rfl (.inl rfl) (WV.call fn29 rfl (ValidS_ok n p k (ho.ext X9) (hr.ext X9))) ?_
  rintro _ H11 ⟨rfl, hx12⟩
  have X13 := Ext.trans X9 hx12
  have X14 := Ext.trans X10 hx12
  have hb15 := hb7.ext hx12
  refine AL.val rfl (.inl rfl) (HV.not rfl) ?_
  refine AL.nx ?_
  refine AW.ifn rfl (fun c16 => ?_) (fun c16 => ?_)
  · -- then
    refine AW.rs ?_
    refine AL.val rfl (.inl rfl) (HV.as rfl) ?_
    refine AL.nx ?_
    refine AW.ret ?_
    refine ret_and ?_
    refine post_one rfl rfl ?_ (.inr rfl)
    exact ⟨by unfold schT; rw [if_neg c16]; rfl, X13⟩
  · -- else
    refine AW.skip ?_
    refine nrm_and ?_
    refine AW.rs ?_
    have hv : okSc n o p k l := (by assumption)
    have hn7 := hv.1
    have hp31 := hv.2.1.1.1
    have hk12 := hv.2.1.2.1
    have hl20 := hv.2.1.2.2.1
    have hol := hv.2.2.2.1
    refine AL.val rfl (.inl rfl) (HV.fa fl27_0 rfl) ?_
    refine AL.val rfl (.inl rfl) (HV.ld rfl va2 (at_cell hb15 rfl)) ?_
    refine AL.val rfl (.inl rfl) (HV.fa fl27_2 rfl) ?_
    refine AL.val rfl (.inl rfl) (HV.fa fl25_0 rfl) ?_
    refine AL.val rfl (.inl rfl) (HV.ld rfl va2 (at_cell_add (j := 2) hb15 rfl)) ?_
    refine AL.val rfl (.inl rfl) (HV.fa fl27_2 rfl) ?_
    refine AL.val rfl (.inl rfl) (HV.fa fl25_1 rfl) ?_
    refine AL.val rfl (.inl rfl) (HV.ld rfl va2 (at_cell_add (j := 3) hb15 rfl)) ?_
    have X17 := Ext.refl H11
    have y18 := hb15.lt
    have o19 := X13.bd
    have o20 := X14.bd
    have o21 := X17.bd
    refine AL.w rfl (.inl rfl) (WV.bsK (K := kI) (l := ([n, p, k] : List Int)) (css := [[.int .i64 n], [.int .i64 p], [.int .i64 k]]) sl22 rfl rfl (by first | rfl | (simp [Instr.fill, Value.cells, kI, kB, kU, kU8, kS, Kd.sc]; done) | (simp [Instr.fill, Value.cells, kI, kB, kU, kU8, kS, Kd.sc, rng1, rng2, rng3, rng4, kP])) rfl (segs_cons rfl (segs_cons rfl (segs_cons rfl segs_nil)))) ?_
    rintro v22 H23 ⟨hx24, ho25⟩
    have X26 := Ext.trans X13 hx24
    have X27 := Ext.trans X14 hx24
    have X28 := Ext.trans X17 hx24
    have hb29 := hb15.ext hx24
    refine AL.w rfl (.inl rfl) (WV.call fn28 rfl (words_ok (bytesOf [115, 99, 104, 101, 109, 101]) ho25.rd (by simp only [ByteArray.size_append, bytesOf_size, bsz, List.length_append, List.length_cons, List.length_nil]; omega) (by simp) (fun x hx => by simp at hx; omega))) ?_
    rintro _ H31 ⟨rfl, hx32⟩
    have X33 := Ext.trans X26 hx32
    have X34 := Ext.trans X27 hx32
    have X35 := Ext.trans X28 hx32
    have ho36 := ho25.ext hx32
    have hb37 := hb29.ext hx32
    refine AL.val rfl (.inl rfl) (HV.adds rfl rfl (by have q := words3_len n p k; simp only [ByteArray.size_append, bytesOf_size, bsz, List.length_append, List.length_cons, List.length_nil]; omega)) ?_
    refine AL.val rfl (.inl rfl) (HV.as rfl) ?_
    refine AL.nx ?_
    refine AW.seq ?_
    refine AW.rs ?_
    refine AL.val rfl (.inl rfl) (HV.fa fl27_2 rfl) ?_
    refine AL.val rfl (.inl rfl) (HV.fa fl25_2 rfl) ?_
    refine AL.val rfl (.inl rfl) (HV.ld rfl va23 (at_cell_add (j := 4) hb37 rfl)) ?_
    refine AL.val rfl (.inl rfl) (HV.len Tryd.underlying23 rfl hr.isSl) ?_
    refine AL.val rfl (.inl rfl) (HV.mv rfl) ?_
    refine AL.nx ?_
    refine AW.block ?_
    refine AW.loop (σ := Nat × ByteArray) (fun ⟨i, s⟩ => [(1, .pointer (some ⟨b3, 0, none⟩)), (2, .string (bytesOf [])), (22, v), (23, .int .i64 (l.length : Int)), (3, .string s), (24, .int .i64 (i : Int))]) (fun ⟨i, s⟩ H' => Ext H H' ∧ Ext H4 H' ∧ Ext H11 H' ∧ At W H' b3 ⟨27, [.int .i64 n, vo, .int .i64 p, .int .i64 k, v], 5⟩ ∧ OwnK kI 2 W H' (fun b => H11.bd ≤ b) v22 (([n, p, k] : List Int) : List Int) ∧ i ≤ l.length ∧ s = bytesOf (txtR n p k o l i) ∧ s.size ≤ 100 + 60 * i ∧ True) (fun ⟨i, s⟩ => l.length - i) (0, (((bytesOf [115, 99, 104, 101, 109, 101]) ++ bytesOf (wordsL (([n, p, k] : List Int) : List Int))) ++ (bytesOf [10]))) ⟨X33, X34, X35, hb37, ho36, Nat.zero_le _, by rw [txtR_zero]; simp only [← bytesOf_app]; (first | done | (congr 1 <;> simp)), by have q := words3_len n p k; simp only [ByteArray.size_append, bytesOf_size, bsz, List.length_append, List.length_cons, List.length_nil]; omega, trivial⟩ ⟨rfl, rfl, rfl, rfl, rfl, rfl, trivial⟩ ?_
    rintro ⟨i, s⟩ H38 ⟨X39, X40, X41, hb42, ho43, hi, hs, hss, _⟩
    refine AW.rs ?_
    refine AL.val rfl (.inl rfl) (HV.lti rfl rfl) ?_
    refine AL.nx ?_
    refine AW.seq ?_
    refine AW.ifd rfl (fun c44 => ?_) (fun c44 => ?_)
    · -- then
      refine AW.skip ?_
      refine nrm_and ?_
      refine AW.seq ?_
      refine AW.block ?_
      refine AW.rs ?_
      refine AL.val rfl (.inl rfl) (HV.mv rfl) ?_
      obtain ⟨p45, z46, cs47, hz48, hK49, hC50, hP51⟩ := RdK.ix (q := (i : Int)) hr sl23 (by omega) (by omega)
      obtain ⟨v52, rfl, hr53⟩ := hK49
      have hm54 := hr53.max
      refine AL.val rfl (.inl rfl) (hP51 rfl rfl) ?_
      refine AL.val rfl (.inl rfl) (HV.ld rfl va22 (cells_first (hC50.ext X39) rfl)) ?_
      refine AL.val rfl (.inl rfl) (HV.as rfl) ?_
      refine AL.val rfl (.inl rfl) (HV.as rfl) ?_
      refine AL.nx ?_
      refine AW.reg ?_
      refine AL.val rfl (.inl rfl) (HV.mv rfl) ?_
      refine AL.val rfl (.inl rfl) (HV.fa fl27_1 rfl) ?_
      refine AL.val rfl (.inl rfl) (HV.ld rfl va22 (at_cell_add (j := 1) hb42 rfl)) ?_
      refine AL.val rfl (.inl rfl) (HV.mv rfl) ?_
      obtain ⟨p55, z56, cs57, hz58, hK59, hC60, hP61⟩ := RdK.ix (q := (i : Int)) ho sl22 (by omega) (by omega)
      obtain rfl : cs57 = [.int .i64 z56] := hK59
      refine AL.val rfl (.inl rfl) (hP61 rfl rfl) ?_
      refine AL.val rfl (.inl rfl) (HV.ld rfl va2 (cells_first (hC60.ext X39) rfl)) ?_
      have X62 := Ext.refl H38
      have y63 := hb42.lt
      have o64 := X39.bd
      have o65 := X40.bd
      have o66 := X41.bd
      have o67 := X62.bd
      have a68 := ho43.ltb
      refine AL.w rfl (.inl rfl) (WV.bsK (K := kI) (l := ([z56] : List Int)) (css := [[.int .i64 z56]]) sl22 rfl rfl (by first | rfl | (simp [Instr.fill, Value.cells, kI, kB, kU, kU8, kS, Kd.sc]; done) | (simp [Instr.fill, Value.cells, kI, kB, kU, kU8, kS, Kd.sc, rng1, rng2, rng3, rng4, kP])) rfl (segs_cons rfl segs_nil)) ?_
      rintro v69 H70 ⟨hx71, ho72⟩
      have X73 := Ext.trans X39 hx71
      have X74 := Ext.trans X40 hx71
      have X75 := Ext.trans X41 hx71
      have X76 := Ext.trans X62 hx71
      have ho77 := ho43.ext hx71
      have hb78 := hb42.ext hx71
      have hoz := hv.2.2.2.2 _ (List.mem_of_getElem? hz58)
      have hoe : o.getD i 0 = z56 := gd hz58 rfl
      have hre : l.getD i [] = z46 := gd hz48 rfl
      have hrw := hv.2.1.2.2.2 _ (List.mem_of_getElem? hz48)
      refine AL.w rfl (.inl rfl) (WV.call fn30 rfl (grpTextI_ok ho72.rd (ris_one (by omega)))) ?_
      rintro _ H80 ⟨rfl, hx81⟩
      have X82 := Ext.trans X73 hx81
      have X83 := Ext.trans X74 hx81
      have X84 := Ext.trans X75 hx81
      have X85 := Ext.trans X76 hx81
      have ho86 := ho77.ext hx81
      have ho87 := ho72.ext hx81
      have hb88 := hb78.ext hx81
      refine AL.val rfl (.inl rfl) (HV.adds rfl rfl (by rw [grp_one]; simp only [ByteArray.size_append, bytesOf_size, bsz, List.length_append, List.length_cons, List.length_nil]; omega)) ?_
      refine AL.val rfl (.inl rfl) (HV.mv rfl) ?_
      refine AL.w rfl (.inl rfl) (WV.call fn28 rfl (words_ok ((bytesOf [114, 111, 119, 32]) ++ (bytesOf (grpT (([z56] : List Int) : List Int)))) (hr53.ext X82) (by rw [grp_one]; simp only [ByteArray.size_append, bytesOf_size, bsz, List.length_append, List.length_cons, List.length_nil]; omega) (by omega) (fun x hx => by obtain ⟨j, hj, rfl⟩ := mem_getD (d := 0) hx; have := hrw.1 j hj; omega))) ?_
      rintro _ H89 ⟨rfl, hx90⟩
      have X91 := Ext.trans X82 hx90
      have X92 := Ext.trans X83 hx90
      have X93 := Ext.trans X84 hx90
      have X94 := Ext.trans X85 hx90
      have ho95 := ho86.ext hx90
      have ho96 := ho87.ext hx90
      have hb97 := hb88.ext hx90
      refine AL.val rfl (.inl rfl) (HV.adds rfl rfl (by rw [grp_one]; have q := wordsL_len z46; simp only [ByteArray.size_append, bytesOf_size, bsz, List.length_append, List.length_cons, List.length_nil]; omega)) ?_
      refine AL.val rfl (.inl rfl) (HV.adds rfl rfl (by rw [grp_one]; have q := wordsL_len z46; simp only [ByteArray.size_append, bytesOf_size, bsz, List.length_append, List.length_cons, List.length_nil]; omega)) ?_
      refine AL.val rfl (.inl rfl) (HV.as rfl) ?_
      refine AL.nil ?_
      refine nrm_blk (nrm_and ?_)
      refine AW.reg ?_
      refine AL.val rfl (.inl rfl) (HV.add rfl rfl (by omega)) ?_
      refine AL.val rfl (.inl rfl) (HV.mv rfl) ?_
      refine AL.nil ?_
      refine nrm_and ?_
      exact ⟨(i + 1, (s ++ ((((bytesOf [114, 111, 119, 32]) ++ (bytesOf (grpT (([z56] : List Int) : List Int)))) ++ bytesOf (wordsL z46)) ++ (bytesOf [10])))), ⟨X91, X92, X93, hb97, ho95, by omega, by rw [txtR_succ, hs, hoe, hre]; simp only [← bytesOf_app]; (first | done | (congr 1 <;> simp)), by rw [grp_one]; have q := wordsL_len z46; simp only [ByteArray.size_append, bytesOf_size, bsz, List.length_append, List.length_cons, List.length_nil]; omega, trivial⟩, by first | omega | (dsimp only; omega), ⟨rfl, rfl, rfl, rfl, rfl, rfl, trivial⟩⟩
    · -- else
      refine AW.exit ?_
      refine ex_and (ex_and (ex_blk ?_))
      refine nrm_and ?_
      refine AW.rs ?_
      refine AL.val rfl (.inl rfl) (HV.mv rfl) ?_
      refine AL.val rfl (.inl rfl) (HV.as rfl) ?_
      refine AL.nx ?_
      refine AW.ret ?_
      refine post_one rfl rfl ?_ (.inr rfl)
      exact ⟨congrArg Value.string (by unfold schT; rw [if_pos hv, hs]; congr 2; omega), X39⟩
end Go.Proofs.YteajnanbfkcdcaaDoor.VC
