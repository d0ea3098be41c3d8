/- Walks. -/
import Derived.Test.YticobjbjejpomaaDoorVF1
set_option linter.unusedVariables false
set_option linter.unusedSimpArgs false
namespace Go.Proofs.YticobjbjejpomaaDoor.VC
open Go Go.RowKit
theorem decL_len (a : Int) : 1 ≤ (decL a).length ∧ (decL a).length ≤ 2 := by unfold decL; split <;> simp
def wordsL (l : List Int) : List Int := l.flatMap (fun x => 32 :: decL x)
theorem wordsL_snoc {l : List Int} {i : Nat} {z : Int} (h : l[i]? = some z) : wordsL (l.take (i + 1)) = wordsL (l.take i) ++ 32 :: decL z := by
  obtain ⟨hi, rfl⟩ := List.getElem?_eq_some_iff.1 h
  unfold wordsL
  rw [List.take_succ_eq_append_getElem hi, List.flatMap_append]
  simp
theorem wordsL_len (l : List Int) : (wordsL l).length ≤ 3 * l.length := by
  induction l with
  | nil => simp [wordsL]
  | cons a l ih =>
    have h : wordsL (a :: l) = (32 :: decL a) ++ wordsL l := rfl
    have := (decL_len a).2
    rw [h, List.length_append, List.length_cons, List.length_cons]; omega
def grpT (l : List Int) : List Int := if l.length = 0 then [45] else l.map (65 + ·)
theorem grpT_len (l : List Int) : (grpT l).length ≤ l.length + 1 := by unfold grpT; split <;> simp
theorem u8_id {a : Int} (h : 0 ≤ a ∧ a < 256) : IntKind.u8.wrap a = a := by
  simp [IntKind.wrap, IntKind.signed, IntKind.bits, Int.emod_eq_of_lt h.1 h.2]
theorem ris_in {l : List Int} {q z : Int} (h : Ris 0 (7 - 1) l) (hz : l[q.toNat]? = some z) : 0 ≤ z ∧ z ≤ 6 := by
  have hq := (List.getElem?_eq_some_iff.1 hz).1
  have := h q.toNat hq
  have e : l.getD q.toNat 0 = z := by rw [List.getD_eq_getElem?_getD, hz]; rfl
  rw [RisAt, e] at this
  omega
theorem ris_ge {l : List Int} (h : Ris 0 (7 - 1) l) : ∀ j, j < l.length → (j : Int) ≤ l.getD j 0
  | 0, hj => by have := h 0 hj; unfold RisAt at this; omega
  | j + 1, hj => by
    have h1 := ris_ge h j (by omega)
    have := h (j + 1) hj
    unfold RisAt at this
    have := this.2.2 (by omega)
    simp only [Nat.add_sub_cancel] at this
    omega
theorem ris7 {l : List Int} (h : Ris 0 (7 - 1) l) : l.length ≤ 7 := by
  rcases Nat.eq_zero_or_pos l.length with h0 | h0
  · omega
  · have h1 := ris_ge h (l.length - 1) (by omega)
    have h2 := h (l.length - 1) (by omega)
    unfold RisAt at h2
    omega
theorem sz_c (c : ByteArray) (l : List Int) : (c ++ bytesOf l).size = c.size + l.length := by rw [ByteArray.size_append, bytesOf_size]
theorem ris_one {z : Int} (h : 0 ≤ z ∧ z ≤ 6) : Ris 0 (7 - 1) [z] := fun j hj => by
  have : j = 0 := by simp at hj; omega
  subst this
  exact ⟨h.1, by show z ≤ _; omega, fun q => by omega⟩
theorem grp_one (z : Int) : grpT [z] = [65 + z] := rfl
theorem bsz (l : List UInt8) : (ByteArray.mk l.toArray).size = l.length := rfl
def txtR (n p k : Int) (o : List Int) (l : List (List Int)) (i : Nat) : List Int := [115, 99, 104, 101, 109, 101] ++ wordsL [n, p, k] ++ [10] ++ (List.range i).flatMap (fun j => [114, 111, 119, 32] ++ grpT [o.getD j 0] ++ wordsL (l.getD j []) ++ [10])
theorem txtR_zero (n p k : Int) (o : List Int) (l : List (List Int)) : txtR n p k o l 0 = [115, 99, 104, 101, 109, 101] ++ wordsL [n, p, k] ++ [10] := by simp [txtR]
theorem txtR_succ (n p k : Int) (o : List Int) (l : List (List Int)) (i : Nat) : txtR n p k o l (i + 1) = txtR n p k o l i ++ ([114, 111, 119, 32] ++ grpT [o.getD i 0] ++ wordsL (l.getD i []) ++ [10]) := by
  unfold txtR
  rw [List.range_succ, List.flatMap_append]
  simp
theorem words3 (n p k : Int) : wordsL [n, p, k] = 32 :: decL n ++ (32 :: decL p ++ (32 :: decL k)) := by simp [wordsL]
theorem words3_len (n p k : Int) : (wordsL [n, p, k]).length ≤ 9 := wordsL_len _
noncomputable def schT (n : Int) (o : List Int) (p k : Int) (l : List (List Int)) : ByteArray := if okSc n o p k l then bytesOf (txtR n p k o l o.length) else bytesOf []
variable {W : World} {H : Hp}

set_option maxRecDepth 100000 in
theorem fmtI_ok (a : Int) (ha : 0 ≤ a ∧ a < 100) : ACalls Tryd.prog W 67 #[.int .i64 a, .int .i64 10] H (fun r H' => r = .string (bytesOf (decL a)) ∧ Ext H H') := by
  refine ACalls.of (args := [.int .i64 a, .int .i64 10]) Tryd.func67 rfl rfl ?_
  have X0 := Ext.refl H
  refine AW.rs ?_
  refine AL.val rfl (.inl rfl) (HV.as rfl) ?_
  refine AL.nx ?_
  refine AW.seq ?_
  refine AW.rs ?_
  refine AL.val rfl (.inl rfl) (HV.mv rfl) ?_
  refine AL.val rfl (.inl rfl) (HV.eqi rfl rfl) ?_
  refine AL.nx ?_
  refine AW.cond rfl (fun _ => ?_) (fun h => by cases h)
  refine AW.seq ?_
  refine AW.rs ?_
  refine AL.val rfl (.inl rfl) (HV.mv rfl) ?_
  refine AL.val rfl (.inl rfl) (HV.lei rfl rfl) ?_
  refine AL.val rfl (.inl rfl) (HV.mv rfl) ?_
  by_cases c2 : (0 : Int) ≤ a
  · -- true
    have c2_ : decide ((0 : Int) ≤ a) = true := decide_eq_true c2
    rw [c2_]
    refine AL.val rfl (.inr ⟨_, _, _, rfl, rfl, rfl⟩) (HV.mv rfl) ?_
    refine AL.val rfl (.inr ⟨_, _, _, rfl, rfl, rfl⟩) (HV.lti rfl rfl) ?_
    refine AL.val rfl (.inl rfl) (HV.pickT rfl rfl) ?_
    refine AL.nx ?_
    refine AW.ifd rfl (fun c3 => ?_) (fun c3 => ?_)
    · -- then
      refine AW.rs ?_
      refine AL.val rfl (.inl rfl) (HV.mv rfl) ?_
      refine AL.w rfl (.inl rfl) (WV.call fn77 rfl (small_ok (W := W) a (by omega))) ?_
      rintro _ H4 ⟨rfl, hx5⟩
      have X6 := Ext.trans X0 hx5
      refine AL.val rfl (.inl rfl) (HV.as rfl) ?_
      refine AL.nx ?_
      refine AW.ret ?_
      refine ret_and (ret_and ?_)
      refine post_one rfl rfl ?_ (.inr rfl)
      exact ⟨rfl, X6⟩
    · -- else
      refine AW.skip ?_
      refine nrm_and ?_
      refine AW.rs ?_
      exfalso; omega
  · -- false
    have c2_ : decide ((0 : Int) ≤ a) = false := decide_eq_false c2
    rw [c2_]
    refine AL.off rfl rfl (by decide) rfl ?_
    refine AL.off rfl rfl (by decide) rfl ?_
    refine AL.val rfl (.inl rfl) (HV.pickF rfl rfl) ?_
    refine AL.nx ?_
    refine AW.cond rfl (fun h => by cases h) (fun _ => ?_)
    refine AW.skip ?_
    refine nrm_and ?_
    refine AW.rs ?_
    exfalso; omega

set_option maxRecDepth 100000 in
theorem fmt_ok (a : Int) (ha : 0 ≤ a ∧ a < 100) : ACalls Tryd.prog W 59 #[.int .i64 a, .int .i64 10] H (fun r H' => r = .string (bytesOf (decL a)) ∧ Ext H H') := by
  refine ACalls.of (args := [.int .i64 a, .int .i64 10]) Tryd.func59 rfl rfl ?_
  have X0 := Ext.refl H
  refine AW.rs ?_
  refine AL.val rfl (.inl rfl) (HV.as rfl) ?_
  refine AL.nx ?_
  refine AW.rs ?_
  refine AL.val rfl (.inl rfl) (HV.mv rfl) ?_
  refine AL.val rfl (.inl rfl) (HV.mv rfl) ?_
  refine AL.w rfl (.inl rfl) (WV.call fn67 rfl (fmtI_ok (W := W) a (by omega))) ?_
  rintro _ H1 ⟨rfl, hx2⟩
  have X3 := Ext.trans X0 hx2
  refine AL.val rfl (.inl rfl) (HV.as rfl) ?_
  refine AL.nx ?_
  refine AW.ret ?_
  refine post_one rfl rfl ?_ (.inr rfl)
  exact ⟨rfl, X3⟩

set_option maxRecDepth 100000 in
theorem decimal_ok (a : Int) (ha : 0 ≤ a ∧ a < 100) : ACalls Tryd.prog W 44 #[.int .i64 a] H (fun r H' => r = .string (bytesOf (decL a)) ∧ Ext H H') := by
  refine ACalls.of (args := [.int .i64 a]) Tryd.func44 rfl rfl ?_
  have X0 := Ext.refl H
  refine AW.rs ?_
  refine AL.val rfl (.inl rfl) (HV.as rfl) ?_
  refine AL.nx ?_
  refine AW.rs ?_
  refine AL.val rfl (.inl rfl) (HV.mv rfl) ?_
  refine AL.w rfl (.inl rfl) (WV.call fn59 rfl (fmt_ok (W := W) a (by omega))) ?_
  rintro _ H1 ⟨rfl, hx2⟩
  have X3 := Ext.trans X0 hx2
  refine AL.val rfl (.inl rfl) (HV.as rfl) ?_
  refine AL.nx ?_
  refine AW.ret ?_
  refine post_one rfl rfl ?_ (.inr rfl)
  exact ⟨rfl, X3⟩

set_option maxRecDepth 100000 in
theorem dec1_ok (a : Int) (ha : 0 ≤ a ∧ a < 10) : ACalls Tryd.prog W 17 #[.int .i64 a] H (fun r H' => r = .string (bytesOf [48 + a]) ∧ Ext H H') := by
  refine ACalls.of (args := [.int .i64 a]) Tryd.func17 rfl rfl ?_
  have X0 := Ext.refl H
  refine AW.rs ?_
  refine AL.val rfl (.inl rfl) (HV.as rfl) ?_
  refine AL.nx ?_
  refine AW.seq ?_
  refine AW.rs ?_
  refine AL.val rfl (.inl rfl) (HV.mv rfl) ?_
  refine AL.val rfl (.inl rfl) (HV.gei rfl rfl) ?_
  refine AL.nx ?_
  refine AW.ifd rfl (fun c1 => ?_) (fun c1 => ?_)
  · -- then
    refine AW.seq ?_
    refine AW.draw' [0, 1, 3, 0, 8, 24, 56, 120, 248, 511, 1023] mixed (by rfl) ?_
    exfalso; omega
  · -- else
    refine AW.skip ?_
    refine nrm_and ?_
    refine AW.rs ?_
    refine AL.val rfl (.inl rfl) (HV.mv rfl) ?_
    refine AL.val rfl (.inl rfl) (HV.add rfl rfl (by omega)) ?_
    refine AL.val rfl (.inl rfl) (HV.cve (by rw [Tryd.underlying2]; rfl) Tryd.underlying5 rfl (u8_id (by omega))) ?_
    have o2 := X0.bd
    refine AL.w rfl (.inl rfl) (WV.bsK (K := kU8) (l := ([48 + a] : List Int)) (css := [[.int .u8 (48 + a)]]) sl64 rfl rfl (by first | rfl | (simp [Instr.fill, Value.cells, kI, kB, kU, kU8, kS, Kd.sc]; done) | (simp [Instr.fill, Value.cells, kI, kB, kU, kU8, kS, Kd.sc, rng1, rng2, rng3, rng4, kP])) rfl (segs_cons rfl segs_nil)) ?_
    rintro v3 H4 ⟨hx5, ho6⟩
    have X7 := Ext.trans X0 hx5
    refine AL.val rfl (.inl rfl) (HV.cvb Tryd.underlying64 Tryd.underlying5 Tryd.underlying9 rfl ho6.rd) ?_
    refine AL.val rfl (.inl rfl) (HV.as rfl) ?_
    refine AL.nx ?_
    refine AW.ret ?_
    refine post_one rfl rfl ?_ (.inr rfl)
    exact ⟨rfl, X7⟩

set_option maxRecDepth 100000 in
theorem dec_ok (a : Int) (ha : 0 ≤ a ∧ a < 100) : ACalls Tryd.prog W 17 #[.int .i64 a] H (fun r H' => r = .string (bytesOf (decL a)) ∧ Ext H H') := by
  refine ACalls.of (args := [.int .i64 a]) Tryd.func17 rfl rfl ?_
  have X0 := Ext.refl H
  refine AW.rs ?_
  refine AL.val rfl (.inl rfl) (HV.as rfl) ?_
  refine AL.nx ?_
  refine AW.seq ?_
  refine AW.rs ?_
  refine AL.val rfl (.inl rfl) (HV.mv rfl) ?_
  refine AL.val rfl (.inl rfl) (HV.gei rfl rfl) ?_
  refine AL.nx ?_
  refine AW.ifd rfl (fun c1 => ?_) (fun c1 => ?_)
  · -- then
    refine AW.seq ?_
    refine AW.draw' [0, 1, 3, 0, 8, 24, 56, 120, 248, 511, 1023] mixed (by rfl) ?_
    refine Dr.read 0 _ 5 _ rfl rfl rfl rfl rfl (RV.of (by intro _ _ h; cases h) (.inl rfl) (fun _ xd => HV.mv rfl)) ?_
    refine Dr.read 1 _ 6 _ rfl rfl rfl rfl rfl (RV.of (by intro _ _ h; cases h) (.inl rfl) (fun _ xd => HV.quo rfl rfl (by omega))) ?_
    refine Dr.read 3 _ 8 _ rfl rfl rfl rfl rfl (RV.of (by intro _ _ h; cases h) (.inl rfl) (fun _ xd => HV.mv rfl)) ?_
    refine Dr.read 4 _ 9 _ rfl rfl rfl rfl rfl (RV.of (by intro _ _ h; cases h) (.inl rfl) (fun _ xd => HV.rem rfl rfl (by omega))) ?_
    refine Dr.read 5 _ 10 _ rfl rfl rfl rfl rfl (RV.of (by intro _ _ h; cases h) (.inl rfl) (fun _ xd => HV.add rfl rfl (by omega))) ?_
    refine Dr.read 6 _ 11 _ rfl rfl rfl rfl rfl (RV.of (by intro _ _ h; cases h) (.inl rfl) (fun _ xd => HV.cve (by rw [Tryd.underlying2]; rfl) Tryd.underlying5 rfl (u8_id (by omega)))) ?_
    have o4 := X0.bd
    refine Dr.eff2 2 7 _ _ _ _ rfl rfl (by intro d h; cases h; exact ⟨rfl, rfl⟩) (by intro d h; cases h; exact ⟨rfl, rfl⟩) rfl rfl rfl rfl rfl (EC.of (by intro _ _ h; cases h) (.inl rfl) (WV.call fn17 rfl (dec1_ok (W := W) (a / 10) (by omega)))) (EC.of (by intro _ _ h; cases h) (.inl rfl) (WV.bsK (K := kU8) (l := ([48 + (a % 10)] : List Int)) (css := [[.int .u8 (48 + (a % 10))]]) sl64 rfl rfl (by first | rfl | (simp [Instr.fill, Value.cells, kI, kB, kU, kU8, kS, Kd.sc]; done) | (simp [Instr.fill, Value.cells, kI, kB, kU, kU8, kS, Kd.sc, rng1, rng2, rng3, rng4, kP])) rfl (segs_cons rfl segs_nil))) (fun v H' h => .inl (h.2)) (fun v H' h => .inl (h.1)) ?_ ?_
    · -- 2 first
      rintro _ H9 ⟨rfl, hx10⟩
      have X11 := Ext.trans X0 hx10
      have X12 := Ext.refl H9
      have o13 := X11.bd
      have o14 := X12.bd
      refine Dr.eff 7 _ _ rfl (by intro d h; cases h; exact ⟨rfl, rfl⟩) rfl rfl rfl (EC.of (by intro _ _ h; cases h) (.inl rfl) (WV.bsK (K := kU8) (l := ([48 + (a % 10)] : List Int)) (css := [[.int .u8 (48 + (a % 10))]]) sl64 rfl rfl (by first | rfl | (simp [Instr.fill, Value.cells, kI, kB, kU, kU8, kS, Kd.sc]; done) | (simp [Instr.fill, Value.cells, kI, kB, kU, kU8, kS, Kd.sc, rng1, rng2, rng3, rng4, kP])) rfl (segs_cons rfl segs_nil))) (fun v H' h => .inl (h.1)) ?_
      rintro v15 H16 ⟨hx17, ho18⟩
      have X19 := Ext.trans X11 hx17
      have X20 := Ext.trans X12 hx17
      refine Dr.read 8 _ 13 _ rfl rfl rfl rfl rfl (RV.of (by intro _ _ h; cases h) (.inl rfl) (fun _ xd => HV.cvb Tryd.underlying64 Tryd.underlying5 Tryd.underlying9 rfl (ho18.rd.ext xd))) ?_
      refine Dr.read 9 _ 14 _ rfl rfl rfl rfl rfl (RV.of (by intro _ _ h; cases h) (.inl rfl) (fun _ xd => HV.adds rfl rfl (by rw [bytesOf_size, bytesOf_size]; simp))) ?_
      refine Dr.read 10 _ 2 _ rfl rfl rfl rfl rfl (RV.of (by intro _ _ h; cases h) (.inl rfl) (fun _ xd => HV.as rfl)) ?_
      refine Dr.fin rfl ?_
      refine nrm_and ?_
      refine AW.ret ?_
      refine ret_and ?_
      refine post_one rfl rfl ?_ (.inr rfl)
      exact ⟨congrArg Value.string (by unfold decL; rw [if_pos (by omega), ← bytesOf_app]; rfl), X19⟩
    · -- 7 first
      have o22 := X0.bd
      rintro v23 H24 ⟨hx25, ho26⟩
      have X27 := Ext.trans X0 hx25
      refine Dr.read 8 _ 13 _ rfl rfl rfl rfl rfl (RV.of (by intro _ _ h; cases h) (.inl rfl) (fun _ xd => HV.cvb Tryd.underlying64 Tryd.underlying5 Tryd.underlying9 rfl (ho26.rd.ext xd))) ?_
      refine Dr.eff 2 _ _ rfl (by intro d h; cases h; exact ⟨rfl, rfl⟩) rfl rfl rfl (EC.of (by intro _ _ h; cases h) (.inl rfl) (WV.call fn17 rfl (dec1_ok (W := W) (a / 10) (by omega)))) (fun v H' h => .inl (h.2)) ?_
      rintro _ H29 ⟨rfl, hx30⟩
      have X31 := Ext.trans X27 hx30
      have ho32 := ho26.ext hx30
      refine Dr.read 9 _ 14 _ rfl rfl rfl rfl rfl (RV.of (by intro _ _ h; cases h) (.inl rfl) (fun _ xd => HV.adds rfl rfl (by rw [bytesOf_size, bytesOf_size]; simp))) ?_
      refine Dr.read 10 _ 2 _ rfl rfl rfl rfl rfl (RV.of (by intro _ _ h; cases h) (.inl rfl) (fun _ xd => HV.as rfl)) ?_
      refine Dr.fin rfl ?_
      refine nrm_and ?_
      refine AW.ret ?_
      refine ret_and ?_
      refine post_one rfl rfl ?_ (.inr rfl)
      exact ⟨congrArg Value.string (by unfold decL; rw [if_pos (by omega), ← bytesOf_app]; rfl), X31⟩
  · -- else
    refine AW.skip ?_
    refine nrm_and ?_
    refine AW.rs ?_
    refine AL.val rfl (.inl rfl) (HV.mv rfl) ?_
    refine AL.val rfl (.inl rfl) (HV.add rfl rfl (by omega)) ?_
    refine AL.val rfl (.inl rfl) (HV.cve (by rw [Tryd.underlying2]; rfl) Tryd.underlying5 rfl (u8_id (by omega))) ?_
    have o33 := X0.bd
    refine AL.w rfl (.inl rfl) (WV.bsK (K := kU8) (l := ([48 + a] : List Int)) (css := [[.int .u8 (48 + a)]]) sl64 rfl rfl (by first | rfl | (simp [Instr.fill, Value.cells, kI, kB, kU, kU8, kS, Kd.sc]; done) | (simp [Instr.fill, Value.cells, kI, kB, kU, kU8, kS, Kd.sc, rng1, rng2, rng3, rng4, kP])) rfl (segs_cons rfl segs_nil)) ?_
    rintro v34 H35 ⟨hx36, ho37⟩
    have X38 := Ext.trans X0 hx36
    refine AL.val rfl (.inl rfl) (HV.cvb Tryd.underlying64 Tryd.underlying5 Tryd.underlying9 rfl ho37.rd) ?_
    refine AL.val rfl (.inl rfl) (HV.as rfl) ?_
    refine AL.nx ?_
    refine AW.ret ?_
    refine post_one rfl rfl ?_ (.inr rfl)
    exact ⟨congrArg Value.string (by unfold decL; rw [if_neg (by omega)]), X38⟩

set_option maxRecDepth 100000 in
theorem grpTextS_ok {v : Value} {l : List Int} {ok : Nat → Prop} (hr : RdK kI W H ok v l) (hg : Ris 0 (7 - 1) l) : ACalls Tryd.prog W 18 #[v] H (fun r H' => r = .string (bytesOf (grpT l)) ∧ Ext H H') := by
  refine ACalls.of (args := [v]) Tryd.func18 rfl rfl ?_
  have X0 := Ext.refl H
  have hm1 := hr.max
  refine AW.rs ?_
  refine AL.val rfl (.inl rfl) (HV.as rfl) ?_
  refine AL.nx ?_
  refine AW.seq ?_
  refine AW.rs ?_
  refine AL.val rfl (.inl rfl) (HV.mv rfl) ?_
  refine AL.w rfl (.inl rfl) (WV.call fn38 rfl (l01Group_ok 7 hr (by omega))) ?_
  rintro _ H2 ⟨rfl, hx3⟩
  have X4 := Ext.trans X0 hx3
  refine AL.val rfl (.inl rfl) (HV.not rfl) ?_
  refine AL.nx ?_
  refine AW.ifn rfl (fun c5 => ?_) (fun c5 => ?_)
  · -- then
    refine AW.rs ?_
    refine AL.val rfl (.inl rfl) (HV.as rfl) ?_
    refine AL.nx ?_
    refine AW.ret ?_
    refine ret_and ?_
    refine post_one rfl rfl ?_ (.inr rfl)
    exact absurd hg c5
  · -- else
    refine AW.skip ?_
    refine nrm_and ?_
    refine AW.rs ?_
    have X6 := Ext.refl H2
    have o7 := X4.bd
    have o8 := X6.bd
    refine AL.w rfl (.inl rfl) (WV.bsK (K := kU8) (l := ([] : List Int)) (css := []) sl64 rfl rfl (by first | rfl | (simp [Instr.fill, Value.cells, kI, kB, kU, kU8, kS, Kd.sc]; done) | (simp [Instr.fill, Value.cells, kI, kB, kU, kU8, kS, Kd.sc, rng1, rng2, rng3, rng4, kP])) rfl segs_nil) ?_
    rintro v9 H10 ⟨hx11, ho12⟩
    have X13 := Ext.trans X4 hx11
    have X14 := Ext.trans X6 hx11
    refine AL.val rfl (.inl rfl) (HV.as rfl) ?_
    refine AL.nx ?_
    refine AW.seq ?_
    refine AW.rs ?_
    refine AL.val rfl (.inl rfl) (HV.as rfl) ?_
    refine AL.nx ?_
    refine AW.block ?_
    refine AW.loop (σ := Nat × Value × List Int) (fun ⟨i, vv, k⟩ => [(0, v), (2, .string ⟨#[]⟩), (3, vv), (4, .int .i64 (i : Int))]) (fun ⟨i, vv, k⟩ H' => Ext H H' ∧ Ext H2 H' ∧ i ≤ l.length ∧ k = (l.take i).map (65 + ·) ∧ k.length = i ∧ OwnK kU8 5 W H' (fun b => H2.bd ≤ b) vv k ∧ True) (fun ⟨i, vv, k⟩ => l.length - i) (0, v9, (([] : List Int) : List Int)) ⟨X13, X14, Nat.zero_le _, rfl, rfl, ho12, trivial⟩ ⟨rfl, rfl, rfl, rfl, trivial⟩ ?_
    rintro ⟨i, vv, k⟩ H16 ⟨X17, X18, hi, hk, hk2, hoL, _⟩
    have hl7 := ris7 hg
    refine AW.seq ?_
    refine AW.rs ?_
    refine AL.val rfl (.inl rfl) (HV.mv rfl) ?_
    refine AL.val rfl (.inl rfl) (HV.mv rfl) ?_
    refine AL.val rfl (.inl rfl) (HV.len Tryd.underlying22 rfl hr.isSl) ?_
    refine AL.val rfl (.inl rfl) (HV.lti rfl rfl) ?_
    refine AL.nx ?_
    refine AW.ifd rfl (fun c19 => ?_) (fun c19 => ?_)
    · -- then
      refine AW.skip ?_
      refine nrm_and ?_
      refine AW.seq ?_
      refine AW.block ?_
      refine AW.reg ?_
      refine AL.val rfl (.inl rfl) (HV.mv rfl) ?_
      refine AL.val rfl (.inl rfl) (HV.mv rfl) ?_
      refine AL.val rfl (.inl rfl) (HV.mv rfl) ?_
      obtain ⟨p20, z21, cs22, hz23, hK24, hC25, hP26⟩ := RdK.ix (q := (i : Int)) hr sl22 (by omega) (by omega)
      obtain rfl : cs22 = [.int .i64 z21] := hK24
      refine AL.val rfl (.inl rfl) (hP26 rfl rfl) ?_
      refine AL.val rfl (.inl rfl) (HV.ld rfl va2 (cells_first (hC25.ext X17) rfl)) ?_
      refine AL.val rfl (.inl rfl) (HV.add rfl rfl (by have := (ris_in hg hz23); omega)) ?_
      refine AL.val rfl (.inl rfl) (HV.cve (by rw [Tryd.underlying2]; rfl) Tryd.underlying5 rfl (u8_id (by have := (ris_in hg hz23); omega))) ?_
      have X27 := Ext.refl H16
      have o28 := X17.bd
      have o29 := X18.bd
      have o30 := X27.bd
      have a31 := hoL.ltb
      refine AL.w rfl (.inl rfl) (WV.bsK (K := kU8) (l := ([65 + z21] : List Int)) (css := [[.int .u8 (65 + z21)]]) sl64 rfl rfl (by first | rfl | (simp [Instr.fill, Value.cells, kI, kB, kU, kU8, kS, Kd.sc]; done) | (simp [Instr.fill, Value.cells, kI, kB, kU, kU8, kS, Kd.sc, rng1, rng2, rng3, rng4, kP])) rfl (segs_cons rfl segs_nil)) ?_
      rintro v32 H33 ⟨hx34, ho35⟩
      have X36 := Ext.trans X17 hx34
      have X37 := Ext.trans X18 hx34
      have X38 := Ext.trans X27 hx34
      have ho39 := hoL.ext hx34
      have X41 := Ext.refl H33
      refine AL.w rfl (.inl rfl) (WV.apk sl64 rfl rfl ho39 ho35.rd (by have := ris7 hg; simp [hk2]; omega) (by have := ris7 hg; simp [hk2]; omega) (fun b hb _ e => Nat.lt_irrefl _ (Nat.lt_of_lt_of_le (a31 b e) hb))) ?_
      rintro v42 H43 ⟨hx44, ho45, hb46⟩
      have ho47 := ho45.narrow (ok' := fun b => H2.bd ≤ b) kU8_flat (fun b q => (hb46 b q).elim (fun e => (ho39.blk b e).1) (fun e => Nat.le_trans X37.bd e))
      have X48 := Ext.thru X36 hx44 (fun b hb => Nat.le_trans o7 (ho39.blk b hb).1)
      have X49 := Ext.thru X37 hx44 (fun b hb => Nat.le_trans o8 (ho39.blk b hb).1)
      refine AL.val rfl (.inl rfl) (HV.as rfl) ?_
      refine AL.nil ?_
      refine nrm_blk (nrm_and ?_)
      refine AW.reg ?_
      refine AL.val rfl (.inl rfl) (HV.mv rfl) ?_
      refine AL.val rfl (.inl rfl) (HV.add rfl rfl (by omega)) ?_
      refine AL.val rfl (.inl rfl) (HV.as rfl) ?_
      refine AL.nil ?_
      refine nrm_and ?_
      exact ⟨(i + 1, v42, (k ++ (([65 + z21] : List Int) : List Int))), ⟨X48, X49, by omega, by rw [map_snoc (f := (65 + ·)) hz23, hk], by simp [hk2], ho47, trivial⟩, by first | omega | (dsimp only; omega), ⟨rfl, rfl, rfl, rfl, trivial⟩⟩
    · -- else
      refine AW.exit ?_
      refine ex_and (ex_and (ex_blk ?_))
      refine nrm_and ?_
      refine AW.seq ?_
      refine AW.rs ?_
      refine AL.val rfl (.inl rfl) (HV.mv rfl) ?_
      refine AL.val rfl (.inl rfl) (HV.len Tryd.underlying64 rfl hoL.rd.isSl) ?_
      refine AL.val rfl (.inl rfl) (HV.eqi rfl rfl) ?_
      refine AL.nx ?_
      refine AW.ifd rfl (fun c53 => ?_) (fun c53 => ?_)
      · -- then
        refine AW.rs ?_
        refine AL.val rfl (.inl rfl) (HV.as rfl) ?_
        refine AL.nx ?_
        refine AW.ret ?_
        refine ret_and ?_
        refine post_one rfl rfl ?_ (.inr rfl)
        exact ⟨by unfold grpT; rw [if_pos (by omega)]; rfl, X17⟩
      · -- else
        refine AW.skip ?_
        refine nrm_and ?_
        refine AW.rs ?_
        refine AL.val rfl (.inl rfl) (HV.mv rfl) ?_
        refine AL.val rfl (.inl rfl) (HV.cvb Tryd.underlying64 Tryd.underlying5 Tryd.underlying9 rfl hoL.rd) ?_
        refine AL.val rfl (.inl rfl) (HV.as rfl) ?_
        refine AL.nx ?_
        refine AW.ret ?_
        refine post_one rfl rfl ?_ (.inr rfl)
        exact ⟨congrArg Value.string (by unfold grpT; rw [if_neg (by omega), hk, List.take_of_length_le (by omega)]), X17⟩

set_option maxRecDepth 100000 in
theorem grpTextI_ok {v : Value} {l : List Int} {ok : Nat → Prop} (hr : RdK kI W H ok v l) (hg : Ris 0 (7 - 1) l) : ACalls Tryd.prog W 23 #[v] H (fun r H' => r = .string (bytesOf (grpT l)) ∧ Ext H H') := by
  refine ACalls.of (args := [v]) Tryd.func23 rfl rfl ?_
  have X0 := Ext.refl H
  have hm1 := hr.max
  refine AW.rs ?_
  refine AL.val rfl (.inl rfl) (HV.as rfl) ?_
  refine AL.nx ?_
  refine AW.seq ?_
  refine AW.rs ?_
  refine AL.val rfl (.inl rfl) (HV.mv rfl) ?_
  refine AL.val rfl (.inl rfl) (HV.len Tryd.underlying22 rfl hr.isSl) ?_
  refine AL.val rfl (.inl rfl) (HV.eqi rfl rfl) ?_
  refine AL.nx ?_
  refine AW.ifd rfl (fun c2 => ?_) (fun c2 => ?_)
  · -- then
    refine AW.rs ?_
    refine AL.val rfl (.inl rfl) (HV.as rfl) ?_
    refine AL.nx ?_
    refine AW.ret ?_
    refine ret_and ?_
    refine post_one rfl rfl ?_ (.inr rfl)
    exact ⟨by unfold grpT; rw [if_pos (by omega)]; rfl, X0⟩
  · -- else
    refine AW.skip ?_
    refine nrm_and ?_
    refine AW.rs ?_
    have o3 := X0.bd
    refine AL.w rfl (.inl rfl) (WV.bsK (K := kU8) (l := ([] : List Int)) (css := []) sl64 rfl rfl (by first | rfl | (simp [Instr.fill, Value.cells, kI, kB, kU, kU8, kS, Kd.sc]; done) | (simp [Instr.fill, Value.cells, kI, kB, kU, kU8, kS, Kd.sc, rng1, rng2, rng3, rng4, kP])) rfl segs_nil) ?_
    rintro v4 H5 ⟨hx6, ho7⟩
    have X8 := Ext.trans X0 hx6
    refine AL.val rfl (.inl rfl) (HV.as rfl) ?_
    refine AL.nx ?_
    refine AW.seq ?_
    refine AW.rs ?_
    refine AL.val rfl (.inl rfl) (HV.mv rfl) ?_
    refine AL.val rfl (.inl rfl) (HV.len Tryd.underlying22 rfl hr.isSl) ?_
    refine AL.val rfl (.inl rfl) (HV.mv rfl) ?_
    refine AL.nx ?_
    refine AW.block ?_
    refine AW.loop (σ := Nat × Value × List Int) (fun ⟨i, vv, k⟩ => [(2, .string ⟨#[]⟩), (10, v), (11, .int .i64 (l.length : Int)), (3, vv), (12, .int .i64 (i : Int))]) (fun ⟨i, vv, k⟩ H' => Ext H H' ∧ i ≤ l.length ∧ k = (l.take i).map (65 + ·) ∧ k.length = i ∧ OwnK kU8 5 W H' (fun b => H.bd ≤ b) vv k ∧ True) (fun ⟨i, vv, k⟩ => l.length - i) (0, v4, (([] : List Int) : List Int)) ⟨X8, Nat.zero_le _, rfl, rfl, ho7, trivial⟩ ⟨rfl, rfl, rfl, rfl, rfl, trivial⟩ ?_
    rintro ⟨i, vv, k⟩ H10 ⟨X11, hi, hk, hk2, hoL, _⟩
    have hl7 := ris7 hg
    refine AW.rs ?_
    refine AL.val rfl (.inl rfl) (HV.lti rfl rfl) ?_
    refine AL.nx ?_
    refine AW.seq ?_
    refine AW.ifd rfl (fun c12 => ?_) (fun c12 => ?_)
    · -- then
      refine AW.skip ?_
      refine nrm_and ?_
      refine AW.seq ?_
      refine AW.block ?_
      refine AW.rs ?_
      obtain ⟨p13, z14, cs15, hz16, hK17, hC18, hP19⟩ := RdK.ix (q := (i : Int)) hr sl22 (by omega) (by omega)
      obtain rfl : cs15 = [.int .i64 z14] := hK17
      refine AL.val rfl (.inl rfl) (hP19 rfl rfl) ?_
      refine AL.val rfl (.inl rfl) (HV.ld rfl va2 (cells_first (hC18.ext X11) rfl)) ?_
      refine AL.val rfl (.inl rfl) (HV.as rfl) ?_
      refine AL.nx ?_
      refine AW.reg ?_
      refine AL.val rfl (.inl rfl) (HV.mv rfl) ?_
      refine AL.val rfl (.inl rfl) (HV.mv rfl) ?_
      refine AL.val rfl (.inl rfl) (HV.add rfl rfl (by have := (ris_in hg hz16); omega)) ?_
      refine AL.val rfl (.inl rfl) (HV.cve (by rw [Tryd.underlying2]; rfl) Tryd.underlying5 rfl (u8_id (by have := (ris_in hg hz16); omega))) ?_
      have X20 := Ext.refl H10
      have o21 := X11.bd
      have o22 := X20.bd
      have a23 := hoL.ltb
      refine AL.w rfl (.inl rfl) (WV.bsK (K := kU8) (l := ([65 + z14] : List Int)) (css := [[.int .u8 (65 + z14)]]) sl64 rfl rfl (by first | rfl | (simp [Instr.fill, Value.cells, kI, kB, kU, kU8, kS, Kd.sc]; done) | (simp [Instr.fill, Value.cells, kI, kB, kU, kU8, kS, Kd.sc, rng1, rng2, rng3, rng4, kP])) rfl (segs_cons rfl segs_nil)) ?_
      rintro v24 H25 ⟨hx26, ho27⟩
      have X28 := Ext.trans X11 hx26
      have X29 := Ext.trans X20 hx26
      have ho30 := hoL.ext hx26
      have X32 := Ext.refl H25
      refine AL.w rfl (.inl rfl) (WV.apk sl64 rfl rfl ho30 ho27.rd (by have := ris7 hg; simp [hk2]; omega) (by have := ris7 hg; simp [hk2]; omega) (fun b hb _ e => Nat.lt_irrefl _ (Nat.lt_of_lt_of_le (a23 b e) hb))) ?_
      rintro v33 H34 ⟨hx35, ho36, hb37⟩
      have ho38 := ho36.narrow (ok' := fun b => H.bd ≤ b) kU8_flat (fun b q => (hb37 b q).elim (fun e => (ho30.blk b e).1) (fun e => Nat.le_trans X28.bd e))
      have X39 := Ext.thru X28 hx35 (fun b hb => Nat.le_trans o3 (ho30.blk b hb).1)
      refine AL.val rfl (.inl rfl) (HV.as rfl) ?_
      refine AL.nil ?_
      refine nrm_blk (nrm_and ?_)
      refine AW.reg ?_
      refine AL.val rfl (.inl rfl) (HV.add rfl rfl (by omega)) ?_
      refine AL.val rfl (.inl rfl) (HV.mv rfl) ?_
      refine AL.nil ?_
      refine nrm_and ?_
      exact ⟨(i + 1, v33, (k ++ (([65 + z14] : List Int) : List Int))), ⟨X39, by omega, by rw [map_snoc (f := (65 + ·)) hz16, hk], by simp [hk2], ho38, trivial⟩, by first | omega | (dsimp only; omega), ⟨rfl, rfl, rfl, rfl, rfl, trivial⟩⟩
    · -- else
      refine AW.exit ?_
      refine ex_and (ex_and (ex_blk ?_))
      refine nrm_and ?_
      refine AW.rs ?_
      refine AL.val rfl (.inl rfl) (HV.mv rfl) ?_
      refine AL.val rfl (.inl rfl) (HV.cvb Tryd.underlying64 Tryd.underlying5 Tryd.underlying9 rfl hoL.rd) ?_
      refine AL.val rfl (.inl rfl) (HV.as rfl) ?_
      refine AL.nx ?_
      refine AW.ret ?_
      refine post_one rfl rfl ?_ (.inr rfl)
      exact ⟨congrArg Value.string (by unfold grpT; rw [if_neg (by omega), hk, List.take_of_length_le (by omega)]), X11⟩

set_option maxRecDepth 100000 in
theorem words_ok {v : Value} {l : List Int} {ok : Nat → Prop} (s : ByteArray) (hr : RdK kI W H ok v l) (hs : s.size ≤ 100) (hl : l.length ≤ 20) (hb : ∀ x ∈ l, 0 ≤ x ∧ x < 100) : ACalls Tryd.prog W 22 #[.string s, v] H (fun r H' => r = .string (s ++ bytesOf (wordsL l)) ∧ Ext H H') := by
  refine ACalls.of (args := [.string s, v]) Tryd.func22 rfl rfl ?_
  have X0 := Ext.refl H
  have hm1 := hr.max
  refine AW.rs ?_
  refine AL.val rfl (.inl rfl) (HV.as rfl) ?_
  refine AL.nx ?_
  refine AW.rs ?_
  refine AL.val rfl (.inl rfl) (HV.mv rfl) ?_
  refine AL.val rfl (.inl rfl) (HV.as rfl) ?_
  refine AL.nx ?_
  refine AW.seq ?_
  refine AW.rs ?_
  refine AL.val rfl (.inl rfl) (HV.mv rfl) ?_
  refine AL.val rfl (.inl rfl) (HV.len Tryd.underlying22 rfl hr.isSl) ?_
  refine AL.val rfl (.inl rfl) (HV.mv rfl) ?_
  refine AL.nx ?_
  refine AW.block ?_
  refine AW.loop (σ := Nat × ByteArray) (fun ⟨i, t⟩ => [(4, .string (bytesOf [])), (9, v), (10, .int .i64 (l.length : Int)), (5, .string t), (11, .int .i64 (i : Int))]) (fun ⟨i, t⟩ H' => Ext H H' ∧ i ≤ l.length ∧ t = s ++ bytesOf (wordsL (l.take i)) ∧ t.size ≤ 100 + 3 * i ∧ True) (fun ⟨i, t⟩ => l.length - i) (0, s) ⟨X0, Nat.zero_le _, (ByteArray.append_empty).symm, by omega, trivial⟩ ⟨rfl, rfl, rfl, rfl, rfl, trivial⟩ ?_
  rintro ⟨i, t⟩ H2 ⟨X3, hi, ht, hts, _⟩
  refine AW.rs ?_
  refine AL.val rfl (.inl rfl) (HV.lti rfl rfl) ?_
  refine AL.nx ?_
  refine AW.seq ?_
  refine AW.ifd rfl (fun c4 => ?_) (fun c4 => ?_)
  · -- then
    refine AW.skip ?_
    refine nrm_and ?_
    refine AW.seq ?_
    refine AW.block ?_
    refine AW.rs ?_
    obtain ⟨p5, z6, cs7, hz8, hK9, hC10, hP11⟩ := RdK.ix (q := (i : Int)) hr sl22 (by omega) (by omega)
    obtain rfl : cs7 = [.int .i64 z6] := hK9
    refine AL.val rfl (.inl rfl) (hP11 rfl rfl) ?_
    refine AL.val rfl (.inl rfl) (HV.ld rfl va2 (cells_first (hC10.ext X3) rfl)) ?_
    refine AL.val rfl (.inl rfl) (HV.as rfl) ?_
    refine AL.nx ?_
    refine AW.reg ?_
    refine AL.val rfl (.inl rfl) (HV.mv rfl) ?_
    refine AL.val rfl (.inl rfl) (HV.mv rfl) ?_
    have hbz := hb _ (List.mem_of_getElem? hz8)
    have hdl12 := (decL_len z6).2
    refine AL.w rfl (.inl rfl) (WV.call fn44 rfl (decimal_ok (W := W) z6 (by omega))) ?_
    rintro _ H13 ⟨rfl, hx14⟩
    have X15 := Ext.trans X3 hx14
    refine AL.val rfl (.inl rfl) (HV.adds rfl rfl (by simp only [ByteArray.size_append, bytesOf_size, bsz, List.length_append, List.length_cons, List.length_nil]; omega)) ?_
    refine AL.val rfl (.inl rfl) (HV.adds rfl rfl (by simp only [ByteArray.size_append, bytesOf_size, bsz, List.length_append, List.length_cons, List.length_nil]; omega)) ?_
    refine AL.val rfl (.inl rfl) (HV.as rfl) ?_
    refine AL.nil ?_
    refine nrm_blk (nrm_and ?_)
    refine AW.reg ?_
    refine AL.val rfl (.inl rfl) (HV.add rfl rfl (by omega)) ?_
    refine AL.val rfl (.inl rfl) (HV.mv rfl) ?_
    refine AL.nil ?_
    refine nrm_and ?_
    exact ⟨(i + 1, (t ++ ((bytesOf [32]) ++ (bytesOf (decL z6))))), ⟨X15, by omega, by rw [wordsL_snoc (getq hz8 rfl), bytesOf_app, ht, ByteArray.append_assoc, ← bytesOf_app [32]]; rfl, by simp only [ByteArray.size_append, bytesOf_size, bsz, List.length_append, List.length_cons, List.length_nil]; omega, trivial⟩, by first | omega | (dsimp only; omega), ⟨rfl, rfl, rfl, rfl, rfl, trivial⟩⟩
  · -- else
    refine AW.exit ?_
    refine ex_and (ex_and (ex_blk ?_))
    refine nrm_and ?_
    refine AW.rs ?_
    refine AL.val rfl (.inl rfl) (HV.mv rfl) ?_
    refine AL.val rfl (.inl rfl) (HV.as rfl) ?_
    refine AL.nx ?_
    refine AW.ret ?_
    refine post_one rfl rfl ?_ (.inr rfl)
    exact ⟨congrArg Value.string (by rw [ht, List.take_of_length_le (by omega)]), X3⟩

set_option maxRecDepth 100000 in
theorem specSX_ok {vo v : Value} {o : List Int} {l : List (List Int)} {oko ok : Nat → Prop} (n p k : Int) (ho : RdK kI W H oko vo o) (hr : RdK (kR kI) W H ok v l) : ACalls Tryd.prog W 6 #[.agg #[.int .i64 n, vo, .int .i64 p, .int .i64 k, v]] H (fun r H' => r = .string (schT n o p k l) ∧ Ext H H') := by
  refine ACalls.of (args := [.agg #[.int .i64 n, vo, .int .i64 p, .int .i64 k, v]]) Tryd.func6 rfl rfl ?_
  have X0 := Ext.refl H
  have hm1 := ho.max
  have hm2 := hr.max
  have hmo := ho.max
  have hmx := hr.max
  refine AW.rs ?_
  refine AL.w rfl (.inl rfl) (WV.bx rfl rfl) ?_
  rintro _ H4 ⟨b3, rfl, hx5, hn6, hb7⟩
  have o8 := Nat.le_trans X0.bd hn6
  have X9 := Ext.trans X0 hx5
  have X10 := Ext.refl H4
  refine AL.val rfl (.inl rfl) (HV.as rfl) ?_
  refine AL.nx ?_
  refine AW.seq ?_
  refine AW.rs ?_
  refine AL.w rfl (.inl rfl) (WV.call fn16 rfl (l04Ok_ok n p k (ho.ext X9) (hr.ext X9) (at_cells hb7 rfl))) ?_
  rintro _ H11 ⟨rfl, hx12⟩
  have X13 := Ext.trans X9 hx12
  have X14 := Ext.trans X10 hx12
  have hb15 := hb7.ext hx12
  refine AL.val rfl (.inl rfl) (HV.not rfl) ?_
  refine AL.nx ?_
  refine AW.ifn rfl (fun c16 => ?_) (fun c16 => ?_)
  · -- then
    refine AW.rs ?_
    refine AL.val rfl (.inl rfl) (HV.as rfl) ?_
    refine AL.nx ?_
    refine AW.ret ?_
    refine ret_and ?_
    refine post_one rfl rfl ?_ (.inr rfl)
    exact ⟨by unfold schT; rw [if_neg c16]; rfl, X13⟩
  · -- else
    refine AW.skip ?_
    refine nrm_and ?_
    refine AW.seq ?_
    refine AW.draw' [0, 1, 3, 7, 15, 0, 32, 96, 231, 511, 1023, 0, 2048, 6144, 14823, 32767, 65535, 131071] mixed (by rfl) ?_
    have hv : okSc n o p k l := (by assumption)
    have hn7 := hv.1
    have hp31 := hv.2.1.1.1
    have hk12 := hv.2.1.2.1
    have hl20 := hv.2.1.2.2.1
    have hol := hv.2.2.2.1
    refine Dr.read 0 _ 8 _ rfl rfl rfl rfl rfl (RV.of (by intro _ _ h; cases h) (.inl rfl) (fun _ xd => HV.fa fl32_0 rfl)) ?_
    refine Dr.read 1 _ 9 _ rfl rfl rfl rfl rfl (RV.of (by intro _ _ h; cases h) (.inl rfl) (fun _ xd => HV.ld rfl va2 (rdc_ext xd (at_cell hb15 rfl)))) ?_
    refine Dr.read 5 _ 13 _ rfl rfl rfl rfl rfl (RV.of (by intro _ _ h; cases h) (.inl rfl) (fun _ xd => HV.fa fl32_2 rfl)) ?_
    refine Dr.read 6 _ 14 _ rfl rfl rfl rfl rfl (RV.of (by intro _ _ h; cases h) (.inl rfl) (fun _ xd => HV.fa fl30_0 rfl)) ?_
    refine Dr.read 7 _ 15 _ rfl rfl rfl rfl rfl (RV.of (by intro _ _ h; cases h) (.inl rfl) (fun _ xd => HV.ld rfl va2 (rdc_ext xd (at_cell_add (j := 2) hb15 rfl)))) ?_
    refine Dr.read 11 _ 19 _ rfl rfl rfl rfl rfl (RV.of (by intro _ _ h; cases h) (.inl rfl) (fun _ xd => HV.fa fl32_2 rfl)) ?_
    refine Dr.read 12 _ 20 _ rfl rfl rfl rfl rfl (RV.of (by intro _ _ h; cases h) (.inl rfl) (fun _ xd => HV.fa fl30_1 rfl)) ?_
    refine Dr.read 13 _ 21 _ rfl rfl rfl rfl rfl (RV.of (by intro _ _ h; cases h) (.inl rfl) (fun _ xd => HV.ld rfl va2 (rdc_ext xd (at_cell_add (j := 3) hb15 rfl)))) ?_
    have hdl17 := (decL_len n).2
    refine Dr.eff 2 _ _ rfl (by intro d h; cases h; exact ⟨rfl, rfl⟩) rfl rfl rfl (EC.of (by intro _ _ h; cases h) (.inl rfl) (WV.call fn17 rfl (dec_ok (W := W) n (by omega)))) (fun v H' h => .inl (h.2)) ?_
    rintro _ H18 ⟨rfl, hx19⟩
    have X20 := Ext.trans X13 hx19
    have X21 := Ext.trans X14 hx19
    have hb22 := hb15.ext hx19
    refine Dr.read 3 _ 11 _ rfl rfl rfl rfl rfl (RV.of (by intro _ _ h; cases h) (.inl rfl) (fun _ xd => HV.adds rfl rfl (by simp only [ByteArray.size_append, bytesOf_size, bsz, List.length_append, List.length_cons, List.length_nil]; omega))) ?_
    refine Dr.read 4 _ 12 _ rfl rfl rfl rfl rfl (RV.of (by intro _ _ h; cases h) (.inl rfl) (fun _ xd => HV.adds rfl rfl (by simp only [ByteArray.size_append, bytesOf_size, bsz, List.length_append, List.length_cons, List.length_nil]; omega))) ?_
    have hdl23 := (decL_len p).2
    refine Dr.eff 8 _ _ rfl (by intro d h; cases h; exact ⟨rfl, rfl⟩) rfl rfl rfl (EC.of (by intro _ _ h; cases h) (.inl rfl) (WV.call fn17 rfl (dec_ok (W := W) p (by omega)))) (fun v H' h => .inl (h.2)) ?_
    rintro _ H24 ⟨rfl, hx25⟩
    have X26 := Ext.trans X20 hx25
    have X27 := Ext.trans X21 hx25
    have hb28 := hb22.ext hx25
    refine Dr.read 9 _ 17 _ rfl rfl rfl rfl rfl (RV.of (by intro _ _ h; cases h) (.inl rfl) (fun _ xd => HV.adds rfl rfl (by simp only [ByteArray.size_append, bytesOf_size, bsz, List.length_append, List.length_cons, List.length_nil]; omega))) ?_
    refine Dr.read 10 _ 18 _ rfl rfl rfl rfl rfl (RV.of (by intro _ _ h; cases h) (.inl rfl) (fun _ xd => HV.adds rfl rfl (by simp only [ByteArray.size_append, bytesOf_size, bsz, List.length_append, List.length_cons, List.length_nil]; omega))) ?_
    have hdl29 := (decL_len k).2
    refine Dr.eff 14 _ _ rfl (by intro d h; cases h; exact ⟨rfl, rfl⟩) rfl rfl rfl (EC.of (by intro _ _ h; cases h) (.inl rfl) (WV.call fn17 rfl (dec_ok (W := W) k (by omega)))) (fun v H' h => .inl (h.2)) ?_
    rintro _ H30 ⟨rfl, hx31⟩
    have X32 := Ext.trans X26 hx31
    have X33 := Ext.trans X27 hx31
    have hb34 := hb28.ext hx31
    refine Dr.read 15 _ 23 _ rfl rfl rfl rfl rfl (RV.of (by intro _ _ h; cases h) (.inl rfl) (fun _ xd => HV.adds rfl rfl (by simp only [ByteArray.size_append, bytesOf_size, bsz, List.length_append, List.length_cons, List.length_nil]; omega))) ?_
    refine Dr.read 16 _ 24 _ rfl rfl rfl rfl rfl (RV.of (by intro _ _ h; cases h) (.inl rfl) (fun _ xd => HV.adds rfl rfl (by simp only [ByteArray.size_append, bytesOf_size, bsz, List.length_append, List.length_cons, List.length_nil]; omega))) ?_
    refine Dr.read 17 _ 3 _ rfl rfl rfl rfl rfl (RV.of (by intro _ _ h; cases h) (.inl rfl) (fun _ xd => HV.as rfl)) ?_
    refine Dr.fin rfl ?_
    refine nrm_and ?_
    refine AW.seq ?_
    refine AW.rs ?_
    refine AL.val rfl (.inl rfl) (HV.as rfl) ?_
    refine AL.nx ?_
    refine AW.block ?_
    have X35 := Ext.refl H30
    refine AW.loop (σ := Nat × ByteArray) (fun ⟨i, s⟩ => [(1, .pointer (some ⟨b3, 0, none⟩)), (2, .string (bytesOf [])), (3, .string s), (4, .int .i64 (i : Int))]) (fun ⟨i, s⟩ H' => Ext H H' ∧ Ext H4 H' ∧ Ext H30 H' ∧ At W H' b3 ⟨32, [.int .i64 n, vo, .int .i64 p, .int .i64 k, v], 5⟩ ∧ i ≤ o.length ∧ s = bytesOf (txtR n p k o l i) ∧ s.size ≤ 100 + 60 * i ∧ True) (fun ⟨i, s⟩ => o.length - i) (0, (((((((bytesOf [115, 99, 104, 101, 109, 101, 32]) ++ (bytesOf (decL n))) ++ (bytesOf [32])) ++ (bytesOf (decL p))) ++ (bytesOf [32])) ++ (bytesOf (decL k))) ++ (bytesOf [10]))) ⟨X32, X33, X35, hb34, Nat.zero_le _, by rw [txtR_zero, words3]; simp only [← bytesOf_app]; (first | done | (congr 1 <;> simp)), by simp only [ByteArray.size_append, bytesOf_size, bsz, List.length_append, List.length_cons, List.length_nil]; omega, trivial⟩ ⟨rfl, rfl, rfl, rfl, trivial⟩ ?_
    rintro ⟨i, s⟩ H36 ⟨X37, X38, X39, hb40, hi, hs, hss, _⟩
    have hrl : i < l.length → ((l.getD i []).length : Int) = k := fun h => (hv.2.1.2.2.2 _ (by rw [List.getD_eq_getElem?_getD, List.getElem?_eq_getElem h]; exact List.getElem_mem h)).2
    refine AW.seq ?_
    refine AW.rs ?_
    refine AL.val rfl (.inl rfl) (HV.mv rfl) ?_
    refine AL.val rfl (.inl rfl) (HV.fa fl32_1 rfl) ?_
    refine AL.val rfl (.inl rfl) (HV.ld rfl va22 (at_cell_add (j := 1) hb40 rfl)) ?_
    refine AL.val rfl (.inl rfl) (HV.len Tryd.underlying22 rfl ho.isSl) ?_
    refine AL.val rfl (.inl rfl) (HV.lti rfl rfl) ?_
    refine AL.nx ?_
    refine AW.ifd rfl (fun c41 => ?_) (fun c41 => ?_)
    · -- then
      refine AW.skip ?_
      refine nrm_and ?_
      refine AW.seq ?_
      refine AW.block ?_
      refine AW.rs ?_
      refine AL.val rfl (.inl rfl) (HV.mv rfl) ?_
      refine AL.val rfl (.inl rfl) (HV.fa fl32_1 rfl) ?_
      refine AL.val rfl (.inl rfl) (HV.ld rfl va22 (at_cell_add (j := 1) hb40 rfl)) ?_
      refine AL.val rfl (.inl rfl) (HV.mv rfl) ?_
      obtain ⟨p42, z43, cs44, hz45, hK46, hC47, hP48⟩ := RdK.ix (q := (i : Int)) ho sl22 (by omega) (by omega)
      obtain rfl : cs44 = [.int .i64 z43] := hK46
      refine AL.val rfl (.inl rfl) (hP48 rfl rfl) ?_
      refine AL.val rfl (.inl rfl) (HV.ld rfl va2 (cells_first (hC47.ext X37) rfl)) ?_
      have X49 := Ext.refl H36
      have y50 := hb40.lt
      have o51 := X37.bd
      have o52 := X38.bd
      have o53 := X39.bd
      have o54 := X49.bd
      refine AL.w rfl (.inl rfl) (WV.bsK (K := kI) (l := ([z43] : List Int)) (css := [[.int .i64 z43]]) sl22 rfl rfl (by first | rfl | (simp [Instr.fill, Value.cells, kI, kB, kU, kU8, kS, Kd.sc]; done) | (simp [Instr.fill, Value.cells, kI, kB, kU, kU8, kS, Kd.sc, rng1, rng2, rng3, rng4, kP])) rfl (segs_cons rfl segs_nil)) ?_
      rintro v55 H56 ⟨hx57, ho58⟩
      have X59 := Ext.trans X37 hx57
      have X60 := Ext.trans X38 hx57
      have X61 := Ext.trans X39 hx57
      have X62 := Ext.trans X49 hx57
      have hb63 := hb40.ext hx57
      have hoz := hv.2.2.2.2 _ (List.mem_of_getElem? hz45)
      have hoe : o.getD i 0 = z43 := gd hz45 rfl
      refine AL.w rfl (.inl rfl) (WV.call fn18 rfl (grpTextS_ok ho58.rd (ris_one (by omega)))) ?_
      rintro _ H65 ⟨rfl, hx66⟩
      have X67 := Ext.trans X59 hx66
      have X68 := Ext.trans X60 hx66
      have X69 := Ext.trans X61 hx66
      have X70 := Ext.trans X62 hx66
      have ho71 := ho58.ext hx66
      have hb72 := hb63.ext hx66
      refine AL.val rfl (.inl rfl) (HV.adds rfl rfl (by rw [grp_one]; simp only [ByteArray.size_append, bytesOf_size, bsz, List.length_append, List.length_cons, List.length_nil]; omega)) ?_
      refine AL.val rfl (.inl rfl) (HV.adds rfl rfl (by rw [grp_one]; simp only [ByteArray.size_append, bytesOf_size, bsz, List.length_append, List.length_cons, List.length_nil]; omega)) ?_
      refine AL.val rfl (.inl rfl) (HV.as rfl) ?_
      refine AL.nx ?_
      refine AW.seq ?_
      refine AW.rs ?_
      refine AL.val rfl (.inl rfl) (HV.as rfl) ?_
      refine AL.nx ?_
      refine AW.block ?_
      refine AW.loop (σ := Nat × ByteArray) (fun ⟨j, s2⟩ => [(1, .pointer (some ⟨b3, 0, none⟩)), (2, .string (bytesOf [])), (4, .int .i64 (i : Int)), (25, .int .i64 (i : Int)), (26, .pointer (some ⟨b3, 1, none⟩)), (27, vo), (28, .int .i64 (o.length : Int)), (29, .bool (decide ((i : Int) < (o.length : Int)))), (32, .string s), (33, .pointer (some ⟨b3, 1, none⟩)), (34, vo), (35, .int .i64 (i : Int)), (36, .pointer (some p42)), (37, .int .i64 z43), (38, v55), (39, .string (bytesOf (grpT (([z43] : List Int) : List Int)))), (40, .string ((bytesOf [114, 111, 119, 32]) ++ (bytesOf (grpT (([z43] : List Int) : List Int))))), (41, .string (s ++ ((bytesOf [114, 111, 119, 32]) ++ (bytesOf (grpT (([z43] : List Int) : List Int)))))), (3, .string s2), (5, .int .i64 (j : Int))]) (fun ⟨j, s2⟩ H' => Ext H H' ∧ Ext H4 H' ∧ Ext H30 H' ∧ Ext H36 H' ∧ At W H' b3 ⟨32, [.int .i64 n, vo, .int .i64 p, .int .i64 k, v], 5⟩ ∧ OwnK kI 2 W H' (fun b => H36.bd ≤ b) v55 (([z43] : List Int) : List Int) ∧ j ≤ (l.getD i []).length ∧ s2 = bytesOf (txtR n p k o l i ++ ([114, 111, 119, 32] ++ grpT [o.getD i 0] ++ wordsL ((l.getD i []).take j))) ∧ s2.size ≤ 110 + 60 * i + 3 * j ∧ True) (fun ⟨j, s2⟩ => (l.getD i []).length - j) (0, (s ++ ((bytesOf [114, 111, 119, 32]) ++ (bytesOf (grpT (([z43] : List Int) : List Int)))))) ⟨X67, X68, X69, X70, hb72, ho71, Nat.zero_le _, by rw [hs, hoe]; simp only [← bytesOf_app]; (first | done | (congr 1 <;> simp [wordsL])), by rw [grp_one]; simp only [ByteArray.size_append, bytesOf_size, bsz, List.length_append, List.length_cons, List.length_nil]; omega, trivial⟩ ⟨rfl, rfl, rfl, rfl, rfl, rfl, rfl, rfl, rfl, rfl, rfl, rfl, rfl, rfl, rfl, rfl, rfl, rfl, rfl, rfl, trivial⟩ ?_
      rintro ⟨j, s2⟩ H73 ⟨X74, X75, X76, X77, hb78, ho79, hj, hs2, hss2, _⟩
      refine AW.seq ?_
      refine AW.rs ?_
      refine AL.val rfl (.inl rfl) (HV.mv rfl) ?_
      refine AL.val rfl (.inl rfl) (HV.fa fl32_2 rfl) ?_
      refine AL.val rfl (.inl rfl) (HV.fa fl30_2 rfl) ?_
      refine AL.val rfl (.inl rfl) (HV.ld rfl va23 (at_cell_add (j := 4) hb78 rfl)) ?_
      refine AL.val rfl (.inl rfl) (HV.mv rfl) ?_
      obtain ⟨p80, z81, cs82, hz83, hK84, hC85, hP86⟩ := RdK.ix (q := (i : Int)) hr sl23 (by omega) (by omega)
      obtain ⟨v87, rfl, hr88⟩ := hK84
      have hm89 := hr88.max
      refine AL.val rfl (.inl rfl) (hP86 rfl rfl) ?_
      refine AL.val rfl (.inl rfl) (HV.ld rfl va22 (cells_first (hC85.ext X74) rfl)) ?_
      have hre : l.getD i [] = z81 := gd hz83 rfl
      have hr2 := hv.2.1.2.2.2 _ (List.mem_of_getElem? hz83)
      refine AL.val rfl (.inl rfl) (HV.len Tryd.underlying22 rfl hr88.isSl) ?_
      refine AL.val rfl (.inl rfl) (HV.lti rfl rfl) ?_
      refine AL.nx ?_
      refine AW.ifd rfl (fun c90 => ?_) (fun c90 => ?_)
      · -- then
        refine AW.skip ?_
        refine nrm_and ?_
        refine AW.seq ?_
        refine AW.block ?_
        refine AW.reg ?_
        refine AL.val rfl (.inl rfl) (HV.mv rfl) ?_
        refine AL.val rfl (.inl rfl) (HV.fa fl32_2 rfl) ?_
        refine AL.val rfl (.inl rfl) (HV.fa fl30_2 rfl) ?_
        refine AL.val rfl (.inl rfl) (HV.ld rfl va23 (at_cell_add (j := 4) hb78 rfl)) ?_
        refine AL.val rfl (.inl rfl) (HV.mv rfl) ?_
        obtain ⟨p91, z92, cs93, hz94, hK95, hC96, hP97⟩ := RdK.ix (q := (i : Int)) hr sl23 (by omega) (by omega)
        obtain ⟨v98, rfl, hr99⟩ := hK95
        have hm100 := hr99.max
        refine AL.val rfl (.inl rfl) (hP97 rfl rfl) ?_
        refine AL.val rfl (.inl rfl) (HV.ld rfl va22 (cells_first (hC96.ext X74) rfl)) ?_
        refine AL.val rfl (.inl rfl) (HV.mv rfl) ?_
        obtain ⟨p101, z102, cs103, hz104, hK105, hC106, hP107⟩ := RdK.ix (q := (j : Int)) hr99 sl22 (by omega) (by have e : z92 = z81 := same_at hz83 hz94; rw [e]; omega)
        obtain rfl : cs103 = [.int .i64 z102] := hK105
        refine AL.val rfl (.inl rfl) (hP107 rfl rfl) ?_
        refine AL.val rfl (.inl rfl) (HV.ld rfl va2 (cells_first (hC106.ext X74) rfl)) ?_
        have hrw := hv.2.1.2.2.2 _ (List.mem_of_getElem? hz94)
        have hez := elem_at hrw.1 hz104
        have hdl108 := (decL_len z102).2
        refine AL.w rfl (.inl rfl) (WV.call fn17 rfl (dec_ok (W := W) z102 (by omega))) ?_
        rintro _ H109 ⟨rfl, hx110⟩
        have X111 := Ext.trans X74 hx110
        have X112 := Ext.trans X75 hx110
        have X113 := Ext.trans X76 hx110
        have X114 := Ext.trans X77 hx110
        have ho115 := ho79.ext hx110
        have hb116 := hb78.ext hx110
        refine AL.val rfl (.inl rfl) (HV.adds rfl rfl (by simp only [ByteArray.size_append, bytesOf_size, bsz, List.length_append, List.length_cons, List.length_nil]; omega)) ?_
        refine AL.val rfl (.inl rfl) (HV.adds rfl rfl (by simp only [ByteArray.size_append, bytesOf_size, bsz, List.length_append, List.length_cons, List.length_nil]; omega)) ?_
        refine AL.val rfl (.inl rfl) (HV.as rfl) ?_
        refine AL.nil ?_
        refine nrm_blk (nrm_and ?_)
        refine AW.reg ?_
        refine AL.val rfl (.inl rfl) (HV.mv rfl) ?_
        refine AL.val rfl (.inl rfl) (HV.add rfl rfl (by omega)) ?_
        refine AL.val rfl (.inl rfl) (HV.as rfl) ?_
        refine AL.nil ?_
        refine nrm_and ?_
        exact ⟨(j + 1, (s2 ++ ((bytesOf [32]) ++ (bytesOf (decL z102))))), ⟨X111, X112, X113, X114, hb116, ho115, by omega, by rw [wordsL_snoc (getq (by rw [show l.getD i [] = z92 from gd hz94 rfl]; exact hz104) rfl), hs2]; simp only [← bytesOf_app]; (first | done | (congr 1 <;> simp)), by simp only [ByteArray.size_append, bytesOf_size, bsz, List.length_append, List.length_cons, List.length_nil]; omega, trivial⟩, by first | omega | (dsimp only; omega), ⟨rfl, rfl, rfl, rfl, rfl, rfl, rfl, rfl, rfl, rfl, rfl, rfl, rfl, rfl, rfl, rfl, rfl, rfl, rfl, rfl, trivial⟩⟩
      · -- else
        refine AW.exit ?_
        refine ex_and (ex_and (ex_blk ?_))
        refine nrm_and ?_
        refine AW.reg ?_
        refine AL.val rfl (.inl rfl) (HV.mv rfl) ?_
        refine AL.val rfl (.inl rfl) (HV.adds rfl rfl (by simp only [ByteArray.size_append, bytesOf_size, bsz, List.length_append, List.length_cons, List.length_nil]; omega)) ?_
        refine AL.val rfl (.inl rfl) (HV.as rfl) ?_
        refine AL.nil ?_
        refine nrm_blk (nrm_and ?_)
        refine AW.reg ?_
        refine AL.val rfl (.inl rfl) (HV.mv rfl) ?_
        refine AL.val rfl (.inl rfl) (HV.add rfl rfl (by omega)) ?_
        refine AL.val rfl (.inl rfl) (HV.as rfl) ?_
        refine AL.nil ?_
        refine nrm_and ?_
        exact ⟨(i + 1, (s2 ++ (bytesOf [10]))), ⟨X74, X75, X76, hb78, by omega, by rw [txtR_succ, hs2, List.take_of_length_le (by omega)]; simp only [← bytesOf_app]; (first | done | (congr 1 <;> simp)), by simp only [ByteArray.size_append, bytesOf_size, bsz, List.length_append, List.length_cons, List.length_nil]; omega, trivial⟩, by first | omega | (dsimp only; omega), ⟨rfl, rfl, rfl, rfl, trivial⟩⟩
    · -- else
      refine AW.exit ?_
      refine ex_and (ex_and (ex_blk ?_))
      refine nrm_and ?_
      refine AW.rs ?_
      refine AL.val rfl (.inl rfl) (HV.mv rfl) ?_
      refine AL.val rfl (.inl rfl) (HV.as rfl) ?_
      refine AL.nx ?_
      refine AW.ret ?_
      refine post_one rfl rfl ?_ (.inr rfl)
      exact ⟨congrArg Value.string (by unfold schT; rw [if_pos hv, hs]; congr 2; omega), X37⟩

set_option maxRecDepth 100000 in
theorem implSX_ok {vo v : Value} {o : List Int} {l : List (List Int)} {oko ok : Nat → Prop} (n p k : Int) (ho : RdK kI W H oko vo o) (hr : RdK (kR kI) W H ok v l) : ACalls Tryd.prog W 8 #[.agg #[.int .i64 n, vo, .int .i64 p, .int .i64 k, v]] H (fun r H' => r = .string (schT n o p k l) ∧ Ext H H') := by
  refine ACalls.of (args := [.agg #[.int .i64 n, vo, .int .i64 p, .int .i64 k, v]]) Tryd.func8 rfl rfl ?_
  have X0 := Ext.refl H
  have hm1 := ho.max
  have hm2 := hr.max
  refine AW.rs ?_
  refine AL.w rfl (.inl rfl) (WV.bx rfl rfl) ?_
  rintro _ H4 ⟨b3, rfl, hx5, hn6, hb7⟩
  have o8 := Nat.le_trans X0.bd hn6
  have X9 := Ext.trans X0 hx5
  have X10 := Ext.refl H4
  refine AL.val rfl (.inl rfl) (HV.as rfl) ?_
  refine AL.nx ?_
  refine AW.seq ?_
  refine AW.rs ?_
  refine AL.val rfl (.inl rfl) (HV.lda (cs := [.int .i64 n, vo, .int .i64 p, .int .i64 k, v]) rfl va32 (at_cells hb7 rfl)) ?_
  refine AL.w rfl (.inl rfl) (WV.call fn21 rfl (ValidS_ok n p k (ho.ext X9) (hr.ext X9))) ?_
  rintro _ H11 ⟨rfl, hx12⟩
  have X13 := Ext.trans X9 hx12
  have X14 := Ext.trans X10 hx12
  have hb15 := hb7.ext hx12
  refine AL.val rfl (.inl rfl) (HV.not rfl) ?_
  refine AL.nx ?_
  refine AW.ifn rfl (fun c16 => ?_) (fun c16 => ?_)
  · -- then
    refine AW.rs ?_
    refine AL.val rfl (.inl rfl) (HV.as rfl) ?_
    refine AL.nx ?_
    refine AW.ret ?_
    refine ret_and ?_
    refine post_one rfl rfl ?_ (.inr rfl)
    exact ⟨by unfold schT; rw [if_neg c16]; rfl, X13⟩
  · -- else
    refine AW.skip ?_
    refine nrm_and ?_
    refine AW.rs ?_
    have hv : okSc n o p k l := (by assumption)
    have hn7 := hv.1
    have hp31 := hv.2.1.1.1
    have hk12 := hv.2.1.2.1
    have hl20 := hv.2.1.2.2.1
    have hol := hv.2.2.2.1
    refine AL.val rfl (.inl rfl) (HV.fa fl32_0 rfl) ?_
    refine AL.val rfl (.inl rfl) (HV.ld rfl va2 (at_cell hb15 rfl)) ?_
    refine AL.val rfl (.inl rfl) (HV.fa fl32_2 rfl) ?_
    refine AL.val rfl (.inl rfl) (HV.fa fl30_0 rfl) ?_
    refine AL.val rfl (.inl rfl) (HV.ld rfl va2 (at_cell_add (j := 2) hb15 rfl)) ?_
    refine AL.val rfl (.inl rfl) (HV.fa fl32_2 rfl) ?_
    refine AL.val rfl (.inl rfl) (HV.fa fl30_1 rfl) ?_
    refine AL.val rfl (.inl rfl) (HV.ld rfl va2 (at_cell_add (j := 3) hb15 rfl)) ?_
    have X17 := Ext.refl H11
    have y18 := hb15.lt
    have o19 := X13.bd
    have o20 := X14.bd
    have o21 := X17.bd
    refine AL.w rfl (.inl rfl) (WV.bsK (K := kI) (l := ([n, p, k] : List Int)) (css := [[.int .i64 n], [.int .i64 p], [.int .i64 k]]) sl22 rfl rfl (by first | rfl | (simp [Instr.fill, Value.cells, kI, kB, kU, kU8, kS, Kd.sc]; done) | (simp [Instr.fill, Value.cells, kI, kB, kU, kU8, kS, Kd.sc, rng1, rng2, rng3, rng4, kP])) rfl (segs_cons rfl (segs_cons rfl (segs_cons rfl segs_nil)))) ?_
    rintro v22 H23 ⟨hx24, ho25⟩
    have X26 := Ext.trans X13 hx24
    have X27 := Ext.trans X14 hx24
    have X28 := Ext.trans X17 hx24
    have hb29 := hb15.ext hx24
    refine AL.w rfl (.inl rfl) (WV.call fn22 rfl (words_ok (bytesOf [115, 99, 104, 101, 109, 101]) ho25.rd (by simp only [ByteArray.size_append, bytesOf_size, bsz, List.length_append, List.length_cons, List.length_nil]; omega) (by simp) (fun x hx => by simp at hx; omega))) ?_
    rintro _ H31 ⟨rfl, hx32⟩
    have X33 := Ext.trans X26 hx32
    have X34 := Ext.trans X27 hx32
    have X35 := Ext.trans X28 hx32
    have ho36 := ho25.ext hx32
    have hb37 := hb29.ext hx32
    refine AL.val rfl (.inl rfl) (HV.adds rfl rfl (by have q := words3_len n p k; simp only [ByteArray.size_append, bytesOf_size, bsz, List.length_append, List.length_cons, List.length_nil]; omega)) ?_
    refine AL.val rfl (.inl rfl) (HV.as rfl) ?_
    refine AL.nx ?_
    refine AW.seq ?_
    refine AW.rs ?_
    refine AL.val rfl (.inl rfl) (HV.fa fl32_2 rfl) ?_
    refine AL.val rfl (.inl rfl) (HV.fa fl30_2 rfl) ?_
    refine AL.val rfl (.inl rfl) (HV.ld rfl va23 (at_cell_add (j := 4) hb37 rfl)) ?_
    refine AL.val rfl (.inl rfl) (HV.len Tryd.underlying23 rfl hr.isSl) ?_
    refine AL.val rfl (.inl rfl) (HV.mv rfl) ?_
    refine AL.nx ?_
    refine AW.block ?_
    refine AW.loop (σ := Nat × ByteArray) (fun ⟨i, s⟩ => [(1, .pointer (some ⟨b3, 0, none⟩)), (2, .string (bytesOf [])), (22, v), (23, .int .i64 (l.length : Int)), (3, .string s), (24, .int .i64 (i : Int))]) (fun ⟨i, s⟩ H' => Ext H H' ∧ Ext H4 H' ∧ Ext H11 H' ∧ At W H' b3 ⟨32, [.int .i64 n, vo, .int .i64 p, .int .i64 k, v], 5⟩ ∧ OwnK kI 2 W H' (fun b => H11.bd ≤ b) v22 (([n, p, k] : List Int) : List Int) ∧ i ≤ l.length ∧ s = bytesOf (txtR n p k o l i) ∧ s.size ≤ 100 + 60 * i ∧ True) (fun ⟨i, s⟩ => l.length - i) (0, (((bytesOf [115, 99, 104, 101, 109, 101]) ++ bytesOf (wordsL (([n, p, k] : List Int) : List Int))) ++ (bytesOf [10]))) ⟨X33, X34, X35, hb37, ho36, Nat.zero_le _, by rw [txtR_zero]; simp only [← bytesOf_app]; (first | done | (congr 1 <;> simp)), by have q := words3_len n p k; simp only [ByteArray.size_append, bytesOf_size, bsz, List.length_append, List.length_cons, List.length_nil]; omega, trivial⟩ ⟨rfl, rfl, rfl, rfl, rfl, rfl, trivial⟩ ?_
    rintro ⟨i, s⟩ H38 ⟨X39, X40, X41, hb42, ho43, hi, hs, hss, _⟩
    refine AW.rs ?_
    refine AL.val rfl (.inl rfl) (HV.lti rfl rfl) ?_
    refine AL.nx ?_
    refine AW.seq ?_
    refine AW.ifd rfl (fun c44 => ?_) (fun c44 => ?_)
    · -- then
      refine AW.skip ?_
      refine nrm_and ?_
      refine AW.seq ?_
      refine AW.block ?_
      refine AW.rs ?_
      refine AL.val rfl (.inl rfl) (HV.mv rfl) ?_
      obtain ⟨p45, z46, cs47, hz48, hK49, hC50, hP51⟩ := RdK.ix (q := (i : Int)) hr sl23 (by omega) (by omega)
      obtain ⟨v52, rfl, hr53⟩ := hK49
      have hm54 := hr53.max
      refine AL.val rfl (.inl rfl) (hP51 rfl rfl) ?_
      refine AL.val rfl (.inl rfl) (HV.ld rfl va22 (cells_first (hC50.ext X39) rfl)) ?_
      refine AL.val rfl (.inl rfl) (HV.as rfl) ?_
      refine AL.val rfl (.inl rfl) (HV.as rfl) ?_
      refine AL.nx ?_
      refine AW.reg ?_
      refine AL.val rfl (.inl rfl) (HV.mv rfl) ?_
      refine AL.val rfl (.inl rfl) (HV.fa fl32_1 rfl) ?_
      refine AL.val rfl (.inl rfl) (HV.ld rfl va22 (at_cell_add (j := 1) hb42 rfl)) ?_
      refine AL.val rfl (.inl rfl) (HV.mv rfl) ?_
      obtain ⟨p55, z56, cs57, hz58, hK59, hC60, hP61⟩ := RdK.ix (q := (i : Int)) ho sl22 (by omega) (by omega)
      obtain rfl : cs57 = [.int .i64 z56] := hK59
      refine AL.val rfl (.inl rfl) (hP61 rfl rfl) ?_
      refine AL.val rfl (.inl rfl) (HV.ld rfl va2 (cells_first (hC60.ext X39) rfl)) ?_
      have X62 := Ext.refl H38
      have y63 := hb42.lt
      have o64 := X39.bd
      have o65 := X40.bd
      have o66 := X41.bd
      have o67 := X62.bd
      have a68 := ho43.ltb
      refine AL.w rfl (.inl rfl) (WV.bsK (K := kI) (l := ([z56] : List Int)) (css := [[.int .i64 z56]]) sl22 rfl rfl (by first | rfl | (simp [Instr.fill, Value.cells, kI, kB, kU, kU8, kS, Kd.sc]; done) | (simp [Instr.fill, Value.cells, kI, kB, kU, kU8, kS, Kd.sc, rng1, rng2, rng3, rng4, kP])) rfl (segs_cons rfl segs_nil)) ?_
      rintro v69 H70 ⟨hx71, ho72⟩
      have X73 := Ext.trans X39 hx71
      have X74 := Ext.trans X40 hx71
      have X75 := Ext.trans X41 hx71
      have X76 := Ext.trans X62 hx71
      have ho77 := ho43.ext hx71
      have hb78 := hb42.ext hx71
      have hoz := hv.2.2.2.2 _ (List.mem_of_getElem? hz58)
      have hoe : o.getD i 0 = z56 := gd hz58 rfl
      have hre : l.getD i [] = z46 := gd hz48 rfl
      have hrw := hv.2.1.2.2.2 _ (List.mem_of_getElem? hz48)
      refine AL.w rfl (.inl rfl) (WV.call fn23 rfl (grpTextI_ok ho72.rd (ris_one (by omega)))) ?_
      rintro _ H80 ⟨rfl, hx81⟩
      have X82 := Ext.trans X73 hx81
      have X83 := Ext.trans X74 hx81
      have X84 := Ext.trans X75 hx81
      have X85 := Ext.trans X76 hx81
      have ho86 := ho77.ext hx81
      have ho87 := ho72.ext hx81
      have hb88 := hb78.ext hx81
      refine AL.val rfl (.inl rfl) (HV.adds rfl rfl (by rw [grp_one]; simp only [ByteArray.size_append, bytesOf_size, bsz, List.length_append, List.length_cons, List.length_nil]; omega)) ?_
      refine AL.val rfl (.inl rfl) (HV.mv rfl) ?_
      refine AL.w rfl (.inl rfl) (WV.call fn22 rfl (words_ok ((bytesOf [114, 111, 119, 32]) ++ (bytesOf (grpT (([z56] : List Int) : List Int)))) (hr53.ext X82) (by rw [grp_one]; simp only [ByteArray.size_append, bytesOf_size, bsz, List.length_append, List.length_cons, List.length_nil]; omega) (by omega) (fun x hx => by obtain ⟨j, hj, rfl⟩ := mem_getD (d := 0) hx; have := hrw.1 j hj; omega))) ?_
      rintro _ H89 ⟨rfl, hx90⟩
      have X91 := Ext.trans X82 hx90
      have X92 := Ext.trans X83 hx90
      have X93 := Ext.trans X84 hx90
      have X94 := Ext.trans X85 hx90
      have ho95 := ho86.ext hx90
      have ho96 := ho87.ext hx90
      have hb97 := hb88.ext hx90
      refine AL.val rfl (.inl rfl) (HV.adds rfl rfl (by rw [grp_one]; have q := wordsL_len z46; simp only [ByteArray.size_append, bytesOf_size, bsz, List.length_append, List.length_cons, List.length_nil]; omega)) ?_
      refine AL.val rfl (.inl rfl) (HV.adds rfl rfl (by rw [grp_one]; have q := wordsL_len z46; simp only [ByteArray.size_append, bytesOf_size, bsz, List.length_append, List.length_cons, List.length_nil]; omega)) ?_
      refine AL.val rfl (.inl rfl) (HV.as rfl) ?_
      refine AL.nil ?_
      refine nrm_blk (nrm_and ?_)
      refine AW.reg ?_
      refine AL.val rfl (.inl rfl) (HV.add rfl rfl (by omega)) ?_
      refine AL.val rfl (.inl rfl) (HV.mv rfl) ?_
      refine AL.nil ?_
      refine nrm_and ?_
      exact ⟨(i + 1, (s ++ ((((bytesOf [114, 111, 119, 32]) ++ (bytesOf (grpT (([z56] : List Int) : List Int)))) ++ bytesOf (wordsL z46)) ++ (bytesOf [10])))), ⟨X91, X92, X93, hb97, ho95, by omega, by rw [txtR_succ, hs, hoe, hre]; simp only [← bytesOf_app]; (first | done | (congr 1 <;> simp)), by rw [grp_one]; have q := wordsL_len z46; simp only [ByteArray.size_append, bytesOf_size, bsz, List.length_append, List.length_cons, List.length_nil]; omega, trivial⟩, by first | omega | (dsimp only; omega), ⟨rfl, rfl, rfl, rfl, rfl, rfl, trivial⟩⟩
    · -- else
      refine AW.exit ?_
      refine ex_and (ex_and (ex_blk ?_))
      refine nrm_and ?_
      refine AW.rs ?_
      refine AL.val rfl (.inl rfl) (HV.mv rfl) ?_
      refine AL.val rfl (.inl rfl) (HV.as rfl) ?_
      refine AL.nx ?_
      refine AW.ret ?_
      refine post_one rfl rfl ?_ (.inr rfl)
      exact ⟨congrArg Value.string (by unfold schT; rw [if_pos hv, hs]; congr 2; omega), X39⟩

set_option maxRecDepth 100000 in
theorem law_SchemeText {vo v : Value} {o : List Int} {l : List (List Int)} {oko ok : Nat → Prop} (n p k : Int) (ho : RdK kI W H oko vo o) (hr : RdK (kR kI) W H ok v l) : ACalls Tryd.prog W 3 #[.agg #[.int .i64 n, vo, .int .i64 p, .int .i64 k, v]] H (fun r H' => r = .bool true ∧ Ext H H') := by
  refine ACalls.of (args := [.agg #[.int .i64 n, vo, .int .i64 p, .int .i64 k, v]]) Tryd.func3 rfl rfl ?_
  have X0 := Ext.refl H
  have hm1 := ho.max
  have hm2 := hr.max
  refine AW.rs ?_
  refine AL.w rfl (.inl rfl) (WV.bx rfl rfl) ?_
  rintro _ H4 ⟨b3, rfl, hx5, hn6, hb7⟩
  have o8 := Nat.le_trans X0.bd hn6
  have X9 := Ext.trans X0 hx5
  have X10 := Ext.refl H4
  refine AL.val rfl (.inl rfl) (HV.as rfl) ?_
  refine AL.nx ?_
  refine AW.rs ?_
  refine AL.val rfl (.inl rfl) (HV.as rfl) ?_
  refine AL.nx ?_
  refine AW.rs ?_
  refine AL.val rfl (.inl rfl) (HV.lda (cs := [.int .i64 n, vo, .int .i64 p, .int .i64 k, v]) rfl va27 (at_cells hb7 rfl)) ?_
  refine AL.val rfl (.inl rfl) (HV.mv rfl) ?_
  refine AL.w rfl (.inl rfl) (WV.call fn5 rfl (szSc_ok n p k (ho.ext X9) (hr.ext X9) 1048576 (by omega))) ?_
  rintro _ H11 ⟨⟨q13, rfl, ha14, hb15, he16⟩, hx12⟩
  have X17 := Ext.trans X9 hx12
  have X18 := Ext.trans X10 hx12
  have hb19 := hb7.ext hx12
  refine AL.val rfl (.inl rfl) (HV.as rfl) ?_
  refine AL.nx ?_
  refine AW.seq ?_
  refine AW.rs ?_
  refine AL.val rfl (.inl rfl) (HV.mv rfl) ?_
  refine AL.val rfl (.inl rfl) (HV.lti rfl rfl) ?_
  refine AL.nx ?_
  refine AW.ifd rfl (fun c20 => ?_) (fun c20 => ?_)
  · -- then
    refine AW.rs ?_
    refine AL.val rfl (.inl rfl) (HV.as rfl) ?_
    refine AL.nx ?_
    refine AW.ret ?_
    refine ret_and ?_
    refine post_one rfl rfl ?_ (.inr rfl)
    exact ⟨rfl, X17⟩
  · -- else
    refine AW.skip ?_
    refine nrm_and ?_
    refine AW.rs ?_
    refine AL.val rfl (.inl rfl) (HV.lda (cs := [.int .i64 n, vo, .int .i64 p, .int .i64 k, v]) rfl va27 (at_cells hb19 rfl)) ?_
    refine AL.w rfl (.inl rfl) (WV.call fn7 rfl (toSc_ok n p k (ho.ext X17) (hr.ext X17) (he16 (by omega)).1 (he16 (by omega)).2)) ?_
    rintro _ H24 ⟨⟨u21, v22, B23, rfl, ho26, ho27⟩, hx25⟩
    have X30 := Ext.trans X17 hx25
    have X31 := Ext.trans X18 hx25
    have hb32 := hb19.ext hx25
    have X33 := Ext.refl H24
    have hr28 := ho26.rd
    have hr29 := rd_ofO ho27.rd
    refine AL.w rfl (.inl rfl) (WV.call fn6 rfl (specSX_ok n p k hr28 hr29)) ?_
    rintro _ H34 ⟨rfl, hx35⟩
    have X36 := Ext.trans X30 hx35
    have X37 := Ext.trans X31 hx35
    have X38 := Ext.trans X33 hx35
    have hb39 := hb32.ext hx35
    refine AL.val rfl (.inl rfl) (HV.as rfl) ?_
    refine AL.nx ?_
    refine AW.rs ?_
    refine AL.val rfl (.inl rfl) (HV.lda (cs := [.int .i64 n, vo, .int .i64 p, .int .i64 k, v]) rfl va27 (at_cells hb39 rfl)) ?_
    refine AL.w rfl (.inl rfl) (WV.call fn7 rfl (toSc_ok n p k (ho.ext X36) (hr.ext X36) (he16 (by omega)).1 (he16 (by omega)).2)) ?_
    rintro _ H43 ⟨⟨u40, v41, B42, rfl, ho45, ho46⟩, hx44⟩
    have X49 := Ext.trans X36 hx44
    have X50 := Ext.trans X37 hx44
    have X51 := Ext.trans X38 hx44
    have hb52 := hb39.ext hx44
    have X53 := Ext.refl H43
    have hr47 := ho45.rd
    have hr48 := rd_ofO ho46.rd
    refine AL.w rfl (.inl rfl) (WV.al ze32 rfl) ?_
    rintro _ H55 ⟨b54, rfl, hx56, hn57, hb58⟩
    have o59 := Nat.le_trans X49.bd hn57
    have o60 := Nat.le_trans X50.bd hn57
    have o61 := Nat.le_trans X51.bd hn57
    have o62 := Nat.le_trans X53.bd hn57
    have ne63 : b3 ≠ b54 := by have := hb52.lt; omega
    have X64 := Ext.trans X49 hx56
    have X65 := Ext.trans X50 hx56
    have X66 := Ext.trans X51 hx56
    have X67 := Ext.trans X53 hx56
    have hb68 := hb52.ext hx56
    have X69 := Ext.refl H55
    refine AL.w0 (.inl rfl) (WV.st rfl rfl va32 rfl hb58 (Nat.le_of_ble_eq_true rfl) (one_cons rfl (one_cons (sl_one1 (hr47.ext X67).isSl) (one_cons rfl (one_cons rfl (one_cons (sl_one1 (hr48.ext X67).isSl) one_nil)))))) ?_
    rintro _ H70 ⟨hx71, hb72⟩
    have X73 := Ext.thru X64 hx71 (fun z_ hz_ => by rw [hz_]; exact o59)
    have X74 := Ext.thru X65 hx71 (fun z_ hz_ => by rw [hz_]; exact o60)
    have X75 := Ext.thru X66 hx71 (fun z_ hz_ => by rw [hz_]; exact o61)
    have X76 := Ext.thru X67 hx71 (fun z_ hz_ => by rw [hz_]; exact o62)
    have hb78 := hb68.but hx71 ne63
    have hb79 : At W H70 b54 ⟨32, [.int .i64 n, u40, .int .i64 p, .int .i64 k, v41], 5⟩ := hb72
    refine AL.nx ?_
    refine AW.rs ?_
    refine AL.val rfl (.inl rfl) (HV.lda (cs := [.int .i64 n, u40, .int .i64 p, .int .i64 k, v41]) rfl va32 (at_cells hb79 rfl)) ?_
    refine AL.w rfl (.inl rfl) (WV.call fn8 rfl (implSX_ok n p k (hr47.ext X76) (hr48.ext X76))) ?_
    rintro _ H80 ⟨rfl, hx81⟩
    have X82 := Ext.trans X73 hx81
    have X83 := Ext.trans X74 hx81
    have X84 := Ext.trans X75 hx81
    have X85 := Ext.trans X76 hx81
    have hb86 := hb78.ext hx81
    have hb87 := hb79.ext hx81
    refine AL.val rfl (.inl rfl) (HV.as rfl) ?_
    refine AL.nx ?_
    refine AW.seq ?_
    refine AW.rs ?_
    refine AL.val rfl (.inl rfl) (HV.mv rfl) ?_
    refine AL.val rfl (.inl rfl) (HV.mv rfl) ?_
    refine AL.val rfl (.inl rfl) (HV.nes rfl rfl) ?_
    refine AL.nx ?_
    refine AW.cond rfl (fun c88 => ?_) (fun c88 => ?_)
    · -- then
      refine AW.rs ?_
      refine AL.val rfl (.inl rfl) (HV.as rfl) ?_
      refine AL.nx ?_
      refine AW.ret ?_
      refine ret_and ?_
      refine post_one rfl rfl ?_ (.inr rfl)
      exact absurd c88 (by simp)
    · -- else
      refine AW.skip ?_
      refine nrm_and ?_
      refine AW.seq ?_
      refine AW.seq ?_
      refine AW.draw' [0, 0, 2, 7, 15] mixed (by rfl) ?_
      refine Dr.read 0 _ 22 _ rfl rfl rfl rfl rfl (RV.of (by intro _ _ h; cases h) (.inl rfl) (fun _ xd => HV.lda (cs := [.int .i64 n, u40, .int .i64 p, .int .i64 k, v41]) rfl va32 (fun j u hu => rdc_ext xd ((at_cells hb87 rfl) j u hu)))) ?_
      refine Dr.read 1 _ 23 _ rfl rfl rfl rfl rfl (RV.of (by intro _ _ h; cases h) (.inl rfl) (fun _ xd => HV.lda (cs := [.int .i64 n, vo, .int .i64 p, .int .i64 k, v]) rfl va27 (fun j u hu => rdc_ext xd ((at_cells hb86 rfl) j u hu)))) ?_
      refine Dr.eff 2 _ _ rfl (by intro d h; cases h; exact ⟨rfl, rfl⟩) rfl rfl rfl (EC.of (by intro _ _ h; cases h) (.inl rfl) (WV.call fn7 rfl (toSc_ok n p k (ho.ext X82) (hr.ext X82) (he16 (by omega)).1 (he16 (by omega)).2))) (fun v H' h => .inl (h.2)) ?_
      rintro _ H92 ⟨⟨u89, v90, B91, rfl, ho94, ho95⟩, hx93⟩
      have X98 := Ext.trans X82 hx93
      have X99 := Ext.trans X83 hx93
      have X100 := Ext.trans X84 hx93
      have X101 := Ext.trans X85 hx93
      have hb102 := hb86.ext hx93
      have hb103 := hb87.ext hx93
      have X104 := Ext.refl H92
      have hr96 := ho94.rd
      have hr97 := rd_ofO ho95.rd
      refine Dr.eff 3 _ _ rfl (by intro d h; cases h; exact ⟨rfl, rfl⟩) rfl rfl rfl (EC.of (by intro _ _ h; cases h) (.inl rfl) (WV.call fn9 rfl (eqSc_ok n p k n p k (hr47.ext X101) (hr48.ext X101) hr96 hr97))) (fun v H' h => .inl (h.2)) ?_
      rintro _ H105 ⟨rfl, hx106⟩
      have X107 := Ext.trans X98 hx106
      have X108 := Ext.trans X99 hx106
      have X109 := Ext.trans X100 hx106
      have X110 := Ext.trans X101 hx106
      have X111 := Ext.trans X104 hx106
      have hb112 := hb102.ext hx106
      have hb113 := hb103.ext hx106
      refine Dr.read 4 _ 26 _ rfl rfl rfl rfl rfl (RV.of (by intro _ _ h; cases h) (.inl rfl) (fun _ xd => HV.not rfl)) ?_
      refine Dr.fin rfl ?_
      refine nrm_and ?_
      refine AW.ifn rfl (fun c114 => ?_) (fun c114 => ?_)
      · -- then
        refine AW.rs ?_
        refine AL.val rfl (.inl rfl) (HV.as rfl) ?_
        refine AL.nx ?_
        refine AW.ret ?_
        refine ret_and ?_
        refine post_one rfl rfl ?_ (.inr rfl)
        exact absurd c114 (by simp)
      · -- else
        refine AW.skip ?_
        refine nrm_and ?_
        refine AW.rs ?_
        refine AL.val rfl (.inl rfl) (HV.as rfl) ?_
        refine AL.nx ?_
        refine AW.ret ?_
        refine post_one rfl rfl ?_ (.inr rfl)
        exact ⟨rfl, X107⟩
end Go.Proofs.YticobjbjejpomaaDoor.VC
