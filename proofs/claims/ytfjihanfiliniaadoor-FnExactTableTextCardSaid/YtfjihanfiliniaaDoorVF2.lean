/- Walks. -/
import Derived.Test.YtfjihanfiliniaaDoorVF1
import Derived.Test.YtfjihanfiliniaaDoorVSB
set_option linter.unusedVariables false
set_option linter.unusedSimpArgs false
namespace Go.Proofs.YtfjihanfiliniaaDoor.VC
open Go Go.RowKit
theorem map_snoc {α : Type} {f : α → Int} {l : List α} {i : Nat} {z : α} (hz : l[(i : Int).toNat]? = some z) : (l.take (i + 1)).map f = (l.take i).map f ++ [f z] := by
  rw [Int.toNat_natCast] at hz
  rw [List.take_add_one, hz]; simp
theorem same_at {α : Type} {l : List α} {q : Int} {z y : α} (h : l[q.toNat]? = some z) (k : l[q.toNat]? = some y) : y = z := Option.some.inj (k.symm.trans h)
theorem decL_len (a : Int) : 1 ≤ (decL a).length ∧ (decL a).length ≤ 2 := by unfold decL; split <;> simp
def wordsL (l : List Int) : List Int := l.flatMap (fun x => 32 :: decL x)
theorem wordsL_snoc {l : List Int} {i : Nat} {z : Int} (h : l[i]? = some z) : wordsL (l.take (i + 1)) = wordsL (l.take i) ++ 32 :: decL z := by
  obtain ⟨hi, rfl⟩ := List.getElem?_eq_some_iff.1 h
  unfold wordsL
  rw [List.take_succ_eq_append_getElem hi, List.flatMap_append]
  simp
theorem wordsL_len (l : List Int) : (wordsL l).length ≤ 3 * l.length := by
  induction l with
  | nil => simp [wordsL]
  | cons a l ih =>
    have h : wordsL (a :: l) = (32 :: decL a) ++ wordsL l := rfl
    have := (decL_len a).2
    rw [h, List.length_append, List.length_cons, List.length_cons]; omega
def grpT (l : List Int) : List Int := if l.length = 0 then [45] else l.map (65 + ·)
theorem grpT_len (l : List Int) : (grpT l).length ≤ l.length + 1 := by unfold grpT; split <;> simp
theorem u8_id {a : Int} (h : 0 ≤ a ∧ a < 256) : IntKind.u8.wrap a = a := by
  simp [IntKind.wrap, IntKind.signed, IntKind.bits, Int.emod_eq_of_lt h.1 h.2]
theorem ris_in {l : List Int} {q z : Int} (h : Ris 0 (7 - 1) l) (hz : l[q.toNat]? = some z) : 0 ≤ z ∧ z ≤ 6 := by
  have hq := (List.getElem?_eq_some_iff.1 hz).1
  have := h q.toNat hq
  have e : l.getD q.toNat 0 = z := by rw [List.getD_eq_getElem?_getD, hz]; rfl
  rw [RisAt, e] at this
  omega
theorem ris_ge {l : List Int} (h : Ris 0 (7 - 1) l) : ∀ j, j < l.length → (j : Int) ≤ l.getD j 0
  | 0, hj => by have := h 0 hj; unfold RisAt at this; omega
  | j + 1, hj => by
    have h1 := ris_ge h j (by omega)
    have := h (j + 1) hj
    unfold RisAt at this
    have := this.2.2 (by omega)
    simp only [Nat.add_sub_cancel] at this
    omega
theorem ris7 {l : List Int} (h : Ris 0 (7 - 1) l) : l.length ≤ 7 := by
  rcases Nat.eq_zero_or_pos l.length with h0 | h0
  · omega
  · have h1 := ris_ge h (l.length - 1) (by omega)
    have h2 := h (l.length - 1) (by omega)
    unfold RisAt at h2
    omega
theorem sz_c (c : ByteArray) (l : List Int) : (c ++ bytesOf l).size = c.size + l.length := by rw [ByteArray.size_append, bytesOf_size]
theorem ris_one {z : Int} (h : 0 ≤ z ∧ z ≤ 6) : Ris 0 (7 - 1) [z] := fun j hj => by
  have : j = 0 := by simp at hj; omega
  subst this
  exact ⟨h.1, by show z ≤ _; omega, fun q => by omega⟩
theorem grp_one (z : Int) : grpT [z] = [65 + z] := rfl
theorem bsz (l : List UInt8) : (ByteArray.mk l.toArray).size = l.length := rfl
def tabT (n : Int) (s : List Int) (l : List (Int × List Int)) (i : Nat) : List Int := [116, 97, 98, 108, 101] ++ wordsL (n :: s) ++ [10] ++ (List.range i).flatMap (fun j => [114, 111, 119] ++ wordsL [(l.getD j (0, [])).1] ++ [32, 58] ++ wordsL (l.getD j (0, [])).2 ++ [10])
theorem tabT_zero (n : Int) (s : List Int) (l : List (Int × List Int)) : tabT n s l 0 = [116, 97, 98, 108, 101] ++ wordsL (n :: s) ++ [10] := by simp [tabT]
theorem tabT_succ (n : Int) (s : List Int) (l : List (Int × List Int)) (i : Nat) : tabT n s l (i + 1) = tabT n s l i ++ ([114, 111, 119] ++ wordsL [(l.getD i (0, [])).1] ++ [32, 58] ++ wordsL (l.getD i (0, [])).2 ++ [10]) := by
  unfold tabT
  rw [List.range_succ, List.flatMap_append]
  simp
theorem words_cons (a : Int) (l : List Int) : wordsL (a :: l) = 32 :: decL a ++ wordsL l := rfl
theorem words_one (a : Int) : wordsL [a] = 32 :: decL a := by simp [wordsL]
noncomputable def tabX (n : Int) (s : List Int) (l : List (Int × List Int)) : ByteArray := if okT n s l then bytesOf (tabT n s l l.length) else bytesOf []
theorem tab_in {n : Int} {s : List Int} {l : List (Int × List Int)} (h : okT n s l) : (0 ≤ n ∧ n < 100) ∧ (∀ x ∈ s, 0 ≤ x ∧ x < 100) ∧ s.length ≤ 7 ∧ l.length ≤ 700 ∧ ∀ y ∈ l, (0 ≤ y.1 ∧ y.1 < 100) ∧ y.2.length ≤ 7 ∧ ∀ x ∈ y.2, 0 ≤ x ∧ x < 100 := by
  obtain ⟨⟨h1, h2, h3, h4, h5⟩, _⟩ := h
  refine ⟨by omega, fun x hx => ?_, by omega, by omega, fun y hy => ?_⟩
  · obtain ⟨j, hj, rfl⟩ := List.getElem_of_mem hx
    have := h4 j hj
    simp only [List.getD_eq_getElem?_getD, List.getElem?_eq_getElem hj, Option.getD_some] at this
    omega
  · obtain ⟨j, hj, rfl⟩ := List.getElem_of_mem hy
    have hb := h5 j hj
    simp only [List.getD_eq_getElem?_getD (l := l), List.getElem?_eq_getElem hj, Option.getD_some] at hb
    obtain ⟨b1, b2, b3⟩ := hb
    refine ⟨by omega, by omega, fun x hx => ?_⟩
    obtain ⟨q, hq, rfl⟩ := List.getElem_of_mem hx
    have e1 := b3 q hq
    have e2 := h4 q (by omega)
    simp only [List.getD_eq_getElem?_getD, List.getElem?_eq_getElem hq, Option.getD_some] at e1 e2
    omega
variable {W : World} {H : Hp}

set_option maxRecDepth 100000 in
theorem fmtI_ok (a : Int) (ha : 0 ≤ a ∧ a < 100) : ACalls Tryd.prog W 41 #[.int .i64 a, .int .i64 10] H (fun r H' => r = .string (bytesOf (decL a)) ∧ Ext H H') := by
  refine ACalls.of (args := [.int .i64 a, .int .i64 10]) Tryd.func41 rfl rfl ?_
  have X0 := Ext.refl H
  refine AW.rs ?_
  refine AL.val rfl (.inl rfl) (HV.as rfl) ?_
  refine AL.nx ?_
  refine AW.seq ?_
  refine AW.rs ?_
  refine AL.val rfl (.inl rfl) (HV.mv rfl) ?_
  refine AL.val rfl (.inl rfl) (HV.eqi rfl rfl) ?_
  refine AL.nx ?_
  refine AW.cond rfl (fun _ => ?_) (fun h => by cases h)
  refine AW.seq ?_
  refine AW.rs ?_
  refine AL.val rfl (.inl rfl) (HV.mv rfl) ?_
  refine AL.val rfl (.inl rfl) (HV.lei rfl rfl) ?_
  refine AL.val rfl (.inl rfl) (HV.mv rfl) ?_
  by_cases c2 : (0 : Int) ≤ a
  · -- true
    have c2_ : decide ((0 : Int) ≤ a) = true := decide_eq_true c2
    rw [c2_]
    refine AL.val rfl (.inr ⟨_, _, _, rfl, rfl, rfl⟩) (HV.mv rfl) ?_
    refine AL.val rfl (.inr ⟨_, _, _, rfl, rfl, rfl⟩) (HV.lti rfl rfl) ?_
    refine AL.val rfl (.inl rfl) (HV.pickT rfl rfl) ?_
    refine AL.nx ?_
    refine AW.ifd rfl (fun c3 => ?_) (fun c3 => ?_)
    · -- then
      refine AW.rs ?_
      refine AL.val rfl (.inl rfl) (HV.mv rfl) ?_
      refine AL.w rfl (.inl rfl) (WV.call fn42 rfl (small_ok (W := W) a (by omega))) ?_
      rintro _ H4 ⟨rfl, hx5⟩
      have X6 := Ext.trans X0 hx5
      refine AL.val rfl (.inl rfl) (HV.as rfl) ?_
      refine AL.nx ?_
      refine AW.ret ?_
      refine ret_and (ret_and ?_)
      refine post_one rfl rfl ?_ (.inr rfl)
      exact ⟨rfl, X6⟩
    · -- else
      refine AW.skip ?_
      refine nrm_and ?_
      refine AW.rs ?_
      exfalso; omega
  · -- false
    have c2_ : decide ((0 : Int) ≤ a) = false := decide_eq_false c2
    rw [c2_]
    refine AL.off rfl rfl (by decide) rfl ?_
    refine AL.off rfl rfl (by decide) rfl ?_
    refine AL.val rfl (.inl rfl) (HV.pickF rfl rfl) ?_
    refine AL.nx ?_
    refine AW.cond rfl (fun h => by cases h) (fun _ => ?_)
    refine AW.skip ?_
    refine nrm_and ?_
    refine AW.rs ?_
    exfalso; omega

set_option maxRecDepth 100000 in
theorem fmt_ok (a : Int) (ha : 0 ≤ a ∧ a < 100) : ACalls Tryd.prog W 39 #[.int .i64 a, .int .i64 10] H (fun r H' => r = .string (bytesOf (decL a)) ∧ Ext H H') := by
  refine ACalls.of (args := [.int .i64 a, .int .i64 10]) Tryd.func39 rfl rfl ?_
  have X0 := Ext.refl H
  refine AW.rs ?_
  refine AL.val rfl (.inl rfl) (HV.as rfl) ?_
  refine AL.nx ?_
  refine AW.rs ?_
  refine AL.val rfl (.inl rfl) (HV.mv rfl) ?_
  refine AL.val rfl (.inl rfl) (HV.mv rfl) ?_
  refine AL.w rfl (.inl rfl) (WV.call fn41 rfl (fmtI_ok (W := W) a (by omega))) ?_
  rintro _ H1 ⟨rfl, hx2⟩
  have X3 := Ext.trans X0 hx2
  refine AL.val rfl (.inl rfl) (HV.as rfl) ?_
  refine AL.nx ?_
  refine AW.ret ?_
  refine post_one rfl rfl ?_ (.inr rfl)
  exact ⟨rfl, X3⟩

set_option maxRecDepth 100000 in
theorem decimal_ok (a : Int) (ha : 0 ≤ a ∧ a < 100) : ACalls Tryd.prog W 30 #[.int .i64 a] H (fun r H' => r = .string (bytesOf (decL a)) ∧ Ext H H') := by
  refine ACalls.of (args := [.int .i64 a]) Tryd.func30 rfl rfl ?_
  have X0 := Ext.refl H
  refine AW.rs ?_
  refine AL.val rfl (.inl rfl) (HV.as rfl) ?_
  refine AL.nx ?_
  refine AW.rs ?_
  refine AL.val rfl (.inl rfl) (HV.mv rfl) ?_
  refine AL.w rfl (.inl rfl) (WV.call fn39 rfl (fmt_ok (W := W) a (by omega))) ?_
  rintro _ H1 ⟨rfl, hx2⟩
  have X3 := Ext.trans X0 hx2
  refine AL.val rfl (.inl rfl) (HV.as rfl) ?_
  refine AL.nx ?_
  refine AW.ret ?_
  refine post_one rfl rfl ?_ (.inr rfl)
  exact ⟨rfl, X3⟩

set_option maxRecDepth 100000 in
theorem dec1_ok (a : Int) (ha : 0 ≤ a ∧ a < 10) : ACalls Tryd.prog W 24 #[.int .i64 a] H (fun r H' => r = .string (bytesOf [48 + a]) ∧ Ext H H') := by
  refine ACalls.of (args := [.int .i64 a]) Tryd.func24 rfl rfl ?_
  have X0 := Ext.refl H
  refine AW.rs ?_
  refine AL.val rfl (.inl rfl) (HV.as rfl) ?_
  refine AL.nx ?_
  refine AW.seq ?_
  refine AW.rs ?_
  refine AL.val rfl (.inl rfl) (HV.mv rfl) ?_
  refine AL.val rfl (.inl rfl) (HV.gei rfl rfl) ?_
  refine AL.nx ?_
  refine AW.ifd rfl (fun c1 => ?_) (fun c1 => ?_)
  · -- then
    refine AW.seq ?_
    refine AW.draw' [0, 1, 3, 0, 8, 24, 56, 120, 248, 511, 1023] mixed (by rfl) ?_
    exfalso; omega
  · -- else
    refine AW.skip ?_
    refine nrm_and ?_
    refine AW.rs ?_
    refine AL.val rfl (.inl rfl) (HV.mv rfl) ?_
    refine AL.val rfl (.inl rfl) (HV.add rfl rfl (by omega)) ?_
    refine AL.val rfl (.inl rfl) (HV.cve (by rw [Tryd.underlying2]; rfl) Tryd.underlying5 rfl (u8_id (by omega))) ?_
    have o2 := X0.bd
    refine AL.w rfl (.inl rfl) (WV.bsK (K := kU8) (l := ([48 + a] : List Int)) (css := [[.int .u8 (48 + a)]]) sl43 rfl rfl (by first | rfl | (simp [Instr.fill, Value.cells, kI, kB, kU, kU8, kS, Kd.sc]; done) | (simp [Instr.fill, Value.cells, kI, kB, kU, kU8, kS, Kd.sc, rng1, rng2, rng3, rng4, kP])) rfl (segs_cons rfl segs_nil)) ?_
    rintro v3 H4 ⟨hx5, ho6⟩
    have X7 := Ext.trans X0 hx5
    refine AL.val rfl (.inl rfl) (HV.cvb Tryd.underlying43 Tryd.underlying5 Tryd.underlying9 rfl ho6.rd) ?_
    refine AL.val rfl (.inl rfl) (HV.as rfl) ?_
    refine AL.nx ?_
    refine AW.ret ?_
    refine post_one rfl rfl ?_ (.inr rfl)
    exact ⟨rfl, X7⟩

set_option maxRecDepth 100000 in
theorem dec_ok (a : Int) (ha : 0 ≤ a ∧ a < 100) : ACalls Tryd.prog W 24 #[.int .i64 a] H (fun r H' => r = .string (bytesOf (decL a)) ∧ Ext H H') := by
  refine ACalls.of (args := [.int .i64 a]) Tryd.func24 rfl rfl ?_
  have X0 := Ext.refl H
  refine AW.rs ?_
  refine AL.val rfl (.inl rfl) (HV.as rfl) ?_
  refine AL.nx ?_
  refine AW.seq ?_
  refine AW.rs ?_
  refine AL.val rfl (.inl rfl) (HV.mv rfl) ?_
  refine AL.val rfl (.inl rfl) (HV.gei rfl rfl) ?_
  refine AL.nx ?_
  refine AW.ifd rfl (fun c1 => ?_) (fun c1 => ?_)
  · -- then
    refine AW.seq ?_
    refine AW.draw' [0, 1, 3, 0, 8, 24, 56, 120, 248, 511, 1023] mixed (by rfl) ?_
    refine Dr.read 0 _ 5 _ rfl rfl rfl rfl rfl (RV.of (by intro _ _ h; cases h) (.inl rfl) (fun _ xd => HV.mv rfl)) ?_
    refine Dr.read 1 _ 6 _ rfl rfl rfl rfl rfl (RV.of (by intro _ _ h; cases h) (.inl rfl) (fun _ xd => HV.quo rfl rfl (by omega))) ?_
    refine Dr.read 3 _ 8 _ rfl rfl rfl rfl rfl (RV.of (by intro _ _ h; cases h) (.inl rfl) (fun _ xd => HV.mv rfl)) ?_
    refine Dr.read 4 _ 9 _ rfl rfl rfl rfl rfl (RV.of (by intro _ _ h; cases h) (.inl rfl) (fun _ xd => HV.rem rfl rfl (by omega))) ?_
    refine Dr.read 5 _ 10 _ rfl rfl rfl rfl rfl (RV.of (by intro _ _ h; cases h) (.inl rfl) (fun _ xd => HV.add rfl rfl (by omega))) ?_
    refine Dr.read 6 _ 11 _ rfl rfl rfl rfl rfl (RV.of (by intro _ _ h; cases h) (.inl rfl) (fun _ xd => HV.cve (by rw [Tryd.underlying2]; rfl) Tryd.underlying5 rfl (u8_id (by omega)))) ?_
    have o4 := X0.bd
    refine Dr.eff2 2 7 _ _ _ _ rfl rfl (by intro d h; cases h; exact ⟨rfl, rfl⟩) (by intro d h; cases h; exact ⟨rfl, rfl⟩) rfl rfl rfl rfl rfl (EC.of (by intro _ _ h; cases h) (.inl rfl) (WV.call fn24 rfl (dec1_ok (W := W) (a / 10) (by omega)))) (EC.of (by intro _ _ h; cases h) (.inl rfl) (WV.bsK (K := kU8) (l := ([48 + (a % 10)] : List Int)) (css := [[.int .u8 (48 + (a % 10))]]) sl43 rfl rfl (by first | rfl | (simp [Instr.fill, Value.cells, kI, kB, kU, kU8, kS, Kd.sc]; done) | (simp [Instr.fill, Value.cells, kI, kB, kU, kU8, kS, Kd.sc, rng1, rng2, rng3, rng4, kP])) rfl (segs_cons rfl segs_nil))) (fun v H' h => .inl (h.2)) (fun v H' h => .inl (h.1)) ?_ ?_
    · -- 2 first
      rintro _ H9 ⟨rfl, hx10⟩
      have X11 := Ext.trans X0 hx10
      have X12 := Ext.refl H9
      have o13 := X11.bd
      have o14 := X12.bd
      refine Dr.eff 7 _ _ rfl (by intro d h; cases h; exact ⟨rfl, rfl⟩) rfl rfl rfl (EC.of (by intro _ _ h; cases h) (.inl rfl) (WV.bsK (K := kU8) (l := ([48 + (a % 10)] : List Int)) (css := [[.int .u8 (48 + (a % 10))]]) sl43 rfl rfl (by first | rfl | (simp [Instr.fill, Value.cells, kI, kB, kU, kU8, kS, Kd.sc]; done) | (simp [Instr.fill, Value.cells, kI, kB, kU, kU8, kS, Kd.sc, rng1, rng2, rng3, rng4, kP])) rfl (segs_cons rfl segs_nil))) (fun v H' h => .inl (h.1)) ?_
      rintro v15 H16 ⟨hx17, ho18⟩
      have X19 := Ext.trans X11 hx17
      have X20 := Ext.trans X12 hx17
      refine Dr.read 8 _ 13 _ rfl rfl rfl rfl rfl (RV.of (by intro _ _ h; cases h) (.inl rfl) (fun _ xd => HV.cvb Tryd.underlying43 Tryd.underlying5 Tryd.underlying9 rfl (ho18.rd.ext xd))) ?_
      refine Dr.read 9 _ 14 _ rfl rfl rfl rfl rfl (RV.of (by intro _ _ h; cases h) (.inl rfl) (fun _ xd => HV.adds rfl rfl (by rw [bytesOf_size, bytesOf_size]; simp))) ?_
      refine Dr.read 10 _ 2 _ rfl rfl rfl rfl rfl (RV.of (by intro _ _ h; cases h) (.inl rfl) (fun _ xd => HV.as rfl)) ?_
      refine Dr.fin rfl ?_
      refine nrm_and ?_
      refine AW.ret ?_
      refine ret_and ?_
      refine post_one rfl rfl ?_ (.inr rfl)
      exact ⟨congrArg Value.string (by unfold decL; rw [if_pos (by omega), ← bytesOf_app]; rfl), X19⟩
    · -- 7 first
      have o22 := X0.bd
      rintro v23 H24 ⟨hx25, ho26⟩
      have X27 := Ext.trans X0 hx25
      refine Dr.read 8 _ 13 _ rfl rfl rfl rfl rfl (RV.of (by intro _ _ h; cases h) (.inl rfl) (fun _ xd => HV.cvb Tryd.underlying43 Tryd.underlying5 Tryd.underlying9 rfl (ho26.rd.ext xd))) ?_
      refine Dr.eff 2 _ _ rfl (by intro d h; cases h; exact ⟨rfl, rfl⟩) rfl rfl rfl (EC.of (by intro _ _ h; cases h) (.inl rfl) (WV.call fn24 rfl (dec1_ok (W := W) (a / 10) (by omega)))) (fun v H' h => .inl (h.2)) ?_
      rintro _ H29 ⟨rfl, hx30⟩
      have X31 := Ext.trans X27 hx30
      have ho32 := ho26.ext hx30
      refine Dr.read 9 _ 14 _ rfl rfl rfl rfl rfl (RV.of (by intro _ _ h; cases h) (.inl rfl) (fun _ xd => HV.adds rfl rfl (by rw [bytesOf_size, bytesOf_size]; simp))) ?_
      refine Dr.read 10 _ 2 _ rfl rfl rfl rfl rfl (RV.of (by intro _ _ h; cases h) (.inl rfl) (fun _ xd => HV.as rfl)) ?_
      refine Dr.fin rfl ?_
      refine nrm_and ?_
      refine AW.ret ?_
      refine ret_and ?_
      refine post_one rfl rfl ?_ (.inr rfl)
      exact ⟨congrArg Value.string (by unfold decL; rw [if_pos (by omega), ← bytesOf_app]; rfl), X31⟩
  · -- else
    refine AW.skip ?_
    refine nrm_and ?_
    refine AW.rs ?_
    refine AL.val rfl (.inl rfl) (HV.mv rfl) ?_
    refine AL.val rfl (.inl rfl) (HV.add rfl rfl (by omega)) ?_
    refine AL.val rfl (.inl rfl) (HV.cve (by rw [Tryd.underlying2]; rfl) Tryd.underlying5 rfl (u8_id (by omega))) ?_
    have o33 := X0.bd
    refine AL.w rfl (.inl rfl) (WV.bsK (K := kU8) (l := ([48 + a] : List Int)) (css := [[.int .u8 (48 + a)]]) sl43 rfl rfl (by first | rfl | (simp [Instr.fill, Value.cells, kI, kB, kU, kU8, kS, Kd.sc]; done) | (simp [Instr.fill, Value.cells, kI, kB, kU, kU8, kS, Kd.sc, rng1, rng2, rng3, rng4, kP])) rfl (segs_cons rfl segs_nil)) ?_
    rintro v34 H35 ⟨hx36, ho37⟩
    have X38 := Ext.trans X0 hx36
    refine AL.val rfl (.inl rfl) (HV.cvb Tryd.underlying43 Tryd.underlying5 Tryd.underlying9 rfl ho37.rd) ?_
    refine AL.val rfl (.inl rfl) (HV.as rfl) ?_
    refine AL.nx ?_
    refine AW.ret ?_
    refine post_one rfl rfl ?_ (.inr rfl)
    exact ⟨congrArg Value.string (by unfold decL; rw [if_neg (by omega)]), X38⟩

set_option maxRecDepth 100000 in
theorem words_ok {v : Value} {l : List Int} {ok : Nat → Prop} (s : ByteArray) (hr : RdK kI W H ok v l) (hs : s.size ≤ 100) (hl : l.length ≤ 20) (hb : ∀ x ∈ l, 0 ≤ x ∧ x < 100) : ACalls Tryd.prog W 17 #[.string s, v] H (fun r H' => r = .string (s ++ bytesOf (wordsL l)) ∧ Ext H H') := by
  refine ACalls.of (args := [.string s, v]) Tryd.func17 rfl rfl ?_
  have X0 := Ext.refl H
  have hm1 := hr.max
  refine AW.rs ?_
  refine AL.val rfl (.inl rfl) (HV.as rfl) ?_
  refine AL.nx ?_
  refine AW.rs ?_
  refine AL.val rfl (.inl rfl) (HV.mv rfl) ?_
  refine AL.val rfl (.inl rfl) (HV.as rfl) ?_
  refine AL.nx ?_
  refine AW.seq ?_
  refine AW.rs ?_
  refine AL.val rfl (.inl rfl) (HV.mv rfl) ?_
  refine AL.val rfl (.inl rfl) (HV.len Tryd.underlying22 rfl hr.isSl) ?_
  refine AL.val rfl (.inl rfl) (HV.mv rfl) ?_
  refine AL.nx ?_
  refine AW.block ?_
  refine AW.loop (σ := Nat × ByteArray) (fun ⟨i, t⟩ => [(4, .string (bytesOf [])), (9, v), (10, .int .i64 (l.length : Int)), (5, .string t), (11, .int .i64 (i : Int))]) (fun ⟨i, t⟩ H' => Ext H H' ∧ i ≤ l.length ∧ t = s ++ bytesOf (wordsL (l.take i)) ∧ t.size ≤ 100 + 3 * i ∧ True) (fun ⟨i, t⟩ => l.length - i) (0, s) ⟨X0, Nat.zero_le _, (ByteArray.append_empty).symm, by omega, trivial⟩ ⟨rfl, rfl, rfl, rfl, rfl, trivial⟩ ?_
  rintro ⟨i, t⟩ H2 ⟨X3, hi, ht, hts, _⟩
  refine AW.rs ?_
  refine AL.val rfl (.inl rfl) (HV.lti rfl rfl) ?_
  refine AL.nx ?_
  refine AW.seq ?_
  refine AW.ifd rfl (fun c4 => ?_) (fun c4 => ?_)
  · -- then
    refine AW.skip ?_
    refine nrm_and ?_
    refine AW.seq ?_
    refine AW.block ?_
    refine AW.rs ?_
    obtain ⟨p5, z6, cs7, hz8, hK9, hC10, hP11⟩ := RdK.ix (q := (i : Int)) hr sl22 (by omega) (by omega)
    obtain rfl : cs7 = [.int .i64 z6] := hK9
    refine AL.val rfl (.inl rfl) (hP11 rfl rfl) ?_
    refine AL.val rfl (.inl rfl) (HV.ld rfl va2 (cells_first (hC10.ext X3) rfl)) ?_
    refine AL.val rfl (.inl rfl) (HV.as rfl) ?_
    refine AL.nx ?_
    refine AW.reg ?_
    refine AL.val rfl (.inl rfl) (HV.mv rfl) ?_
    refine AL.val rfl (.inl rfl) (HV.mv rfl) ?_
    have hbz := hb _ (List.mem_of_getElem? hz8)
    have hdl12 := (decL_len z6).2
    refine AL.w rfl (.inl rfl) (WV.call fn30 rfl (decimal_ok (W := W) z6 (by omega))) ?_
    rintro _ H13 ⟨rfl, hx14⟩
    have X15 := Ext.trans X3 hx14
    refine AL.val rfl (.inl rfl) (HV.adds rfl rfl (by simp only [ByteArray.size_append, bytesOf_size, bsz, List.length_append, List.length_cons, List.length_nil]; omega)) ?_
    refine AL.val rfl (.inl rfl) (HV.adds rfl rfl (by simp only [ByteArray.size_append, bytesOf_size, bsz, List.length_append, List.length_cons, List.length_nil]; omega)) ?_
    refine AL.val rfl (.inl rfl) (HV.as rfl) ?_
    refine AL.nil ?_
    refine nrm_blk (nrm_and ?_)
    refine AW.reg ?_
    refine AL.val rfl (.inl rfl) (HV.add rfl rfl (by omega)) ?_
    refine AL.val rfl (.inl rfl) (HV.mv rfl) ?_
    refine AL.nil ?_
    refine nrm_and ?_
    exact ⟨(i + 1, (t ++ ((bytesOf [32]) ++ (bytesOf (decL z6))))), ⟨X15, by omega, by rw [wordsL_snoc (getq hz8 rfl), bytesOf_app, ht, ByteArray.append_assoc, ← bytesOf_app [32]]; rfl, by simp only [ByteArray.size_append, bytesOf_size, bsz, List.length_append, List.length_cons, List.length_nil]; omega, trivial⟩, by first | omega | (dsimp only; omega), ⟨rfl, rfl, rfl, rfl, rfl, trivial⟩⟩
  · -- else
    refine AW.exit ?_
    refine ex_and (ex_and (ex_blk ?_))
    refine nrm_and ?_
    refine AW.rs ?_
    refine AL.val rfl (.inl rfl) (HV.mv rfl) ?_
    refine AL.val rfl (.inl rfl) (HV.as rfl) ?_
    refine AL.nx ?_
    refine AW.ret ?_
    refine post_one rfl rfl ?_ (.inr rfl)
    exact ⟨congrArg Value.string (by rw [ht, List.take_of_length_le (by omega)]), X3⟩

set_option maxRecDepth 100000 in
theorem l06List_ok {v : Value} {l : List Int} {ok : Nat → Prop} (hr : RdK kI W H ok v l) (hl : l.length ≤ 20) (hb : ∀ x ∈ l, 0 ≤ x ∧ x < 100) : ACalls Tryd.prog W 25 #[v] H (fun r H' => r = .string (bytesOf (wordsL l)) ∧ Ext H H') := by
  refine ACalls.of (args := [v]) Tryd.func25 rfl rfl ?_
  have X0 := Ext.refl H
  have hm1 := hr.max
  refine AW.rs ?_
  refine AL.val rfl (.inl rfl) (HV.as rfl) ?_
  refine AL.nx ?_
  refine AW.rs ?_
  refine AL.val rfl (.inl rfl) (HV.as rfl) ?_
  refine AL.nx ?_
  refine AW.seq ?_
  refine AW.rs ?_
  refine AL.val rfl (.inl rfl) (HV.as rfl) ?_
  refine AL.nx ?_
  refine AW.block ?_
  refine AW.loop (σ := Nat × ByteArray) (fun ⟨i, t⟩ => [(0, v), (2, .string (bytesOf [])), (3, .string t), (4, .int .i64 (i : Int))]) (fun ⟨i, t⟩ H' => Ext H H' ∧ i ≤ l.length ∧ t = bytesOf (wordsL (l.take i)) ∧ t.size ≤ 3 * i ∧ True) (fun ⟨i, t⟩ => l.length - i) (0, (bytesOf [])) ⟨X0, Nat.zero_le _, rfl, by decide, trivial⟩ ⟨rfl, rfl, rfl, rfl, trivial⟩ ?_
  rintro ⟨i, t⟩ H2 ⟨X3, hi, ht, hts, _⟩
  refine AW.seq ?_
  refine AW.rs ?_
  refine AL.val rfl (.inl rfl) (HV.mv rfl) ?_
  refine AL.val rfl (.inl rfl) (HV.mv rfl) ?_
  refine AL.val rfl (.inl rfl) (HV.len Tryd.underlying22 rfl hr.isSl) ?_
  refine AL.val rfl (.inl rfl) (HV.lti rfl rfl) ?_
  refine AL.nx ?_
  refine AW.ifd rfl (fun c4 => ?_) (fun c4 => ?_)
  · -- then
    refine AW.skip ?_
    refine nrm_and ?_
    refine AW.seq ?_
    refine AW.block ?_
    refine AW.reg ?_
    refine AL.val rfl (.inl rfl) (HV.mv rfl) ?_
    refine AL.val rfl (.inl rfl) (HV.mv rfl) ?_
    refine AL.val rfl (.inl rfl) (HV.mv rfl) ?_
    obtain ⟨p5, z6, cs7, hz8, hK9, hC10, hP11⟩ := RdK.ix (q := (i : Int)) hr sl22 (by omega) (by omega)
    obtain rfl : cs7 = [.int .i64 z6] := hK9
    refine AL.val rfl (.inl rfl) (hP11 rfl rfl) ?_
    refine AL.val rfl (.inl rfl) (HV.ld rfl va2 (cells_first (hC10.ext X3) rfl)) ?_
    have hbz := hb _ (List.mem_of_getElem? hz8)
    have hdl12 := (decL_len z6).2
    refine AL.w rfl (.inl rfl) (WV.call fn24 rfl (dec_ok (W := W) z6 (by omega))) ?_
    rintro _ H13 ⟨rfl, hx14⟩
    have X15 := Ext.trans X3 hx14
    refine AL.val rfl (.inl rfl) (HV.adds rfl rfl (by simp only [ByteArray.size_append, bytesOf_size, bsz, List.length_append, List.length_cons, List.length_nil]; omega)) ?_
    refine AL.val rfl (.inl rfl) (HV.adds rfl rfl (by simp only [ByteArray.size_append, bytesOf_size, bsz, List.length_append, List.length_cons, List.length_nil]; omega)) ?_
    refine AL.val rfl (.inl rfl) (HV.as rfl) ?_
    refine AL.nil ?_
    refine nrm_blk (nrm_and ?_)
    refine AW.reg ?_
    refine AL.val rfl (.inl rfl) (HV.mv rfl) ?_
    refine AL.val rfl (.inl rfl) (HV.add rfl rfl (by omega)) ?_
    refine AL.val rfl (.inl rfl) (HV.as rfl) ?_
    refine AL.nil ?_
    refine nrm_and ?_
    exact ⟨(i + 1, (t ++ ((bytesOf [32]) ++ (bytesOf (decL z6))))), ⟨X15, by omega, by rw [wordsL_snoc (getq hz8 rfl), bytesOf_app, ht, ← bytesOf_app [32]]; rfl, by simp only [ByteArray.size_append, bytesOf_size, bsz, List.length_append, List.length_cons, List.length_nil]; omega, trivial⟩, by first | omega | (dsimp only; omega), ⟨rfl, rfl, rfl, rfl, trivial⟩⟩
  · -- else
    refine AW.exit ?_
    refine ex_and (ex_and (ex_blk ?_))
    refine nrm_and ?_
    refine AW.rs ?_
    refine AL.val rfl (.inl rfl) (HV.mv rfl) ?_
    refine AL.val rfl (.inl rfl) (HV.as rfl) ?_
    refine AL.nx ?_
    refine AW.ret ?_
    refine post_one rfl rfl ?_ (.inr rfl)
    exact ⟨congrArg Value.string (by rw [ht, List.take_of_length_le (by omega)]), X3⟩

set_option maxRecDepth 100000 in
theorem l06Text_ok {vs v : Value} {s : List Int} {l : List (Int × List Int)} {oks ok : Nat → Prop} {n : Int} {b : Nat} (hs : RdK kI W H oks vs s) (hr : RdK (kP kI (kR kI)) W H ok v l) (hb : At W H b ⟨30, [.int .i64 n, vs, v], 3⟩) (hok : okT n s l) : ACalls Tryd.prog W 12 #[.pointer (some ⟨b, 0, none⟩)] H (fun r H' => r = .string (bytesOf (tabT n s l l.length)) ∧ Ext H H') := by
  refine ACalls.of (args := [.pointer (some ⟨b, 0, none⟩)]) Tryd.func12 rfl rfl ?_
  have X0 := Ext.refl H
  have hti := tab_in hok
  have hmL := hr.max
  have hn100 := hti.1
  have hwl := wordsL_len s
  refine AW.rs ?_
  refine AL.val rfl (.inl rfl) (HV.as rfl) ?_
  refine AL.nx ?_
  refine AW.seq ?_
  refine AW.draw' [0, 1, 3, 7, 15, 31, 0, 64, 192, 448, 991, 2047, 4095, 8191] mixed (by rfl) ?_
  refine Dr.read 0 _ 5 _ rfl rfl rfl rfl rfl (RV.of (by intro _ _ h; cases h) (.inl rfl) (fun _ xd => HV.mv rfl)) ?_
  refine Dr.read 1 _ 6 _ rfl rfl rfl rfl rfl (RV.of (by intro _ _ h; cases h) (.inl rfl) (fun _ xd => HV.nc rfl)) ?_
  refine Dr.read 2 _ 7 _ rfl rfl rfl rfl rfl (RV.of (by intro _ _ h; cases h) (.inl rfl) (fun _ xd => HV.fa fl30_0 rfl)) ?_
  refine Dr.read 3 _ 8 _ rfl rfl rfl rfl rfl (RV.of (by intro _ _ h; cases h) (.inl rfl) (fun _ xd => HV.ld rfl va2 (rdc_ext xd (at_cell hb rfl)))) ?_
  refine Dr.read 6 _ 11 _ rfl rfl rfl rfl rfl (RV.of (by intro _ _ h; cases h) (.inl rfl) (fun _ xd => HV.mv rfl)) ?_
  refine Dr.read 7 _ 12 _ rfl rfl rfl rfl rfl (RV.of (by intro _ _ h; cases h) (.inl rfl) (fun _ xd => HV.nc rfl)) ?_
  refine Dr.read 8 _ 13 _ rfl rfl rfl rfl rfl (RV.of (by intro _ _ h; cases h) (.inl rfl) (fun _ xd => HV.fa fl30_1 rfl)) ?_
  refine Dr.read 9 _ 14 _ rfl rfl rfl rfl rfl (RV.of (by intro _ _ h; cases h) (.inl rfl) (fun _ xd => HV.ld rfl va22 (rdc_ext xd (at_cell_add (j := 1) hb rfl)))) ?_
  have hdl1 := (decL_len n).2
  refine Dr.eff 4 _ _ rfl (by intro d h; cases h; exact ⟨rfl, rfl⟩) rfl rfl rfl (EC.of (by intro _ _ h; cases h) (.inl rfl) (WV.call fn24 rfl (dec_ok (W := W) n (by omega)))) (fun v H' h => .inl (h.2)) ?_
  rintro _ H2 ⟨rfl, hx3⟩
  have X4 := Ext.trans X0 hx3
  have hb5 := hb.ext hx3
  refine Dr.read 5 _ 10 _ rfl rfl rfl rfl rfl (RV.of (by intro _ _ h; cases h) (.inl rfl) (fun _ xd => HV.adds rfl rfl (by simp only [ByteArray.size_append, bytesOf_size, bsz, List.length_append, List.length_cons, List.length_nil]; omega))) ?_
  have hsb := hti.2.1
  have hs7 := hti.2.2.1
  refine Dr.eff 10 _ _ rfl (by intro d h; cases h; exact ⟨rfl, rfl⟩) rfl rfl rfl (EC.of (by intro _ _ h; cases h) (.inl rfl) (WV.call fn25 rfl (l06List_ok (hs.ext X4) (by omega) hti.2.1))) (fun v H' h => .inl (h.2)) ?_
  rintro _ H6 ⟨rfl, hx7⟩
  have X8 := Ext.trans X4 hx7
  have hb9 := hb5.ext hx7
  refine Dr.read 11 _ 16 _ rfl rfl rfl rfl rfl (RV.of (by intro _ _ h; cases h) (.inl rfl) (fun _ xd => HV.adds rfl rfl (by simp only [ByteArray.size_append, bytesOf_size, bsz, List.length_append, List.length_cons, List.length_nil]; omega))) ?_
  refine Dr.read 12 _ 17 _ rfl rfl rfl rfl rfl (RV.of (by intro _ _ h; cases h) (.inl rfl) (fun _ xd => HV.adds rfl rfl (by simp only [ByteArray.size_append, bytesOf_size, bsz, List.length_append, List.length_cons, List.length_nil]; omega))) ?_
  refine Dr.read 13 _ 3 _ rfl rfl rfl rfl rfl (RV.of (by intro _ _ h; cases h) (.inl rfl) (fun _ xd => HV.as rfl)) ?_
  refine Dr.fin rfl ?_
  refine nrm_and ?_
  refine AW.seq ?_
  refine AW.rs ?_
  refine AL.val rfl (.inl rfl) (HV.as rfl) ?_
  refine AL.nx ?_
  refine AW.block ?_
  have X10 := Ext.refl H6
  refine AW.loop (σ := Nat × ByteArray) (fun ⟨i, t⟩ => [(0, .pointer (some ⟨b, 0, none⟩)), (2, .string (bytesOf [])), (3, .string t), (4, .int .i64 (i : Int))]) (fun ⟨i, t⟩ H' => Ext H H' ∧ Ext H6 H' ∧ At W H' b ⟨30, [.int .i64 n, vs, v], 3⟩ ∧ i ≤ l.length ∧ t = bytesOf (tabT n s l i) ∧ t.size ≤ 100 + 60 * i ∧ True) (fun ⟨i, t⟩ => l.length - i) (0, ((((bytesOf [116, 97, 98, 108, 101, 32]) ++ (bytesOf (decL n))) ++ (bytesOf (wordsL s))) ++ (bytesOf [10]))) ⟨X8, X10, hb9, Nat.zero_le _, by rw [tabT_zero, words_cons]; simp only [← bytesOf_app]; (first | done | (congr 1 <;> simp)), by simp only [ByteArray.size_append, bytesOf_size, bsz, List.length_append, List.length_cons, List.length_nil]; omega, trivial⟩ ⟨rfl, rfl, rfl, rfl, trivial⟩ ?_
  rintro ⟨i, t⟩ H11 ⟨X12, X13, hb14, hi, ht, hts, _⟩
  refine AW.seq ?_
  refine AW.rs ?_
  refine AL.val rfl (.inl rfl) (HV.mv rfl) ?_
  refine AL.val rfl (.inl rfl) (HV.mv rfl) ?_
  refine AL.val rfl (.inl rfl) (HV.nc rfl) ?_
  refine AL.val rfl (.inl rfl) (HV.fa fl30_2 rfl) ?_
  refine AL.val rfl (.inl rfl) (HV.ld rfl va28 (at_cell_add (j := 2) hb14 rfl)) ?_
  refine AL.val rfl (.inl rfl) (HV.len Tryd.underlying28 rfl hr.isSl) ?_
  refine AL.val rfl (.inl rfl) (HV.lti rfl rfl) ?_
  refine AL.nx ?_
  refine AW.ifd rfl (fun c15 => ?_) (fun c15 => ?_)
  · -- then
    refine AW.skip ?_
    refine nrm_and ?_
    refine AW.seq ?_
    refine AW.block ?_
    refine AW.draw' [0, 0, 2, 6, 14, 0, 62, 126, 254, 510, 1022, 2046, 0, 4096, 12288, 28672, 0, 126976, 258048, 520192, 1045502, 2097150, 4194302, 8388607, 16777215] mixed (by rfl) ?_
    refine Dr.read 0 _ 27 _ rfl rfl rfl rfl rfl (RV.of (by intro _ _ h; cases h) (.inl rfl) (fun _ xd => HV.mv rfl)) ?_
    refine Dr.read 1 _ 28 _ rfl rfl rfl rfl rfl (RV.of (by intro _ _ h; cases h) (.inl rfl) (fun _ xd => HV.mv rfl)) ?_
    refine Dr.read 2 _ 29 _ rfl rfl rfl rfl rfl (RV.of (by intro _ _ h; cases h) (.inl rfl) (fun _ xd => HV.nc rfl)) ?_
    refine Dr.read 3 _ 30 _ rfl rfl rfl rfl rfl (RV.of (by intro _ _ h; cases h) (.inl rfl) (fun _ xd => HV.fa fl30_2 rfl)) ?_
    refine Dr.read 4 _ 31 _ rfl rfl rfl rfl rfl (RV.of (by intro _ _ h; cases h) (.inl rfl) (fun _ xd => HV.ld rfl va28 (rdc_ext xd (at_cell_add (j := 2) hb14 rfl)))) ?_
    refine Dr.read 5 _ 32 _ rfl rfl rfl rfl rfl (RV.of (by intro _ _ h; cases h) (.inl rfl) (fun _ xd => HV.mv rfl)) ?_
    obtain ⟨p16, z17, cs18, hz19, hK20, hC21, hP22⟩ := RdK.ix (q := (i : Int)) hr sl28 (by omega) (by omega)
    obtain ⟨cs23, cs24, rfl, hK25, hK26⟩ := hK20
    obtain rfl : cs23 = [.int .i64 z17.1] := hK25
    obtain ⟨v27, rfl, hr28⟩ := hK26
    have hm29 := hr28.max
    refine Dr.read 6 _ 33 _ rfl rfl rfl rfl rfl (RV.of (by intro _ _ h; cases h) (.inl rfl) (fun _ xd => hP22 rfl rfl)) ?_
    refine Dr.read 7 _ 34 _ rfl rfl rfl rfl rfl (RV.of (by intro _ _ h; cases h) (.inl rfl) (fun _ xd => HV.fa fl52_0 rfl)) ?_
    refine Dr.read 8 _ 35 _ rfl rfl rfl rfl rfl (RV.of (by intro _ _ h; cases h) (.inl rfl) (fun _ xd => HV.ld rfl va2 (rdc_ext xd (cells_first (hC21.ext X12) rfl)))) ?_
    refine Dr.read 12 _ 39 _ rfl rfl rfl rfl rfl (RV.of (by intro _ _ h; cases h) (.inl rfl) (fun _ xd => HV.mv rfl)) ?_
    refine Dr.read 13 _ 40 _ rfl rfl rfl rfl rfl (RV.of (by intro _ _ h; cases h) (.inl rfl) (fun _ xd => HV.nc rfl)) ?_
    refine Dr.read 14 _ 41 _ rfl rfl rfl rfl rfl (RV.of (by intro _ _ h; cases h) (.inl rfl) (fun _ xd => HV.fa fl30_2 rfl)) ?_
    refine Dr.read 15 _ 42 _ rfl rfl rfl rfl rfl (RV.of (by intro _ _ h; cases h) (.inl rfl) (fun _ xd => HV.ld rfl va28 (rdc_ext xd (at_cell_add (j := 2) hb14 rfl)))) ?_
    refine Dr.read 16 _ 43 _ rfl rfl rfl rfl rfl (RV.of (by intro _ _ h; cases h) (.inl rfl) (fun _ xd => HV.mv rfl)) ?_
    obtain ⟨p30, z31, cs32, hz33, hK34, hC35, hP36⟩ := RdK.ix (q := (i : Int)) hr sl28 (by omega) (by omega)
    obtain ⟨cs37, cs38, rfl, hK39, hK40⟩ := hK34
    obtain rfl : cs37 = [.int .i64 z31.1] := hK39
    obtain ⟨v41, rfl, hr42⟩ := hK40
    have hm43 := hr42.max
    refine Dr.read 17 _ 44 _ rfl rfl rfl rfl rfl (RV.of (by intro _ _ h; cases h) (.inl rfl) (fun _ xd => hP36 rfl rfl)) ?_
    refine Dr.read 18 _ 45 _ rfl rfl rfl rfl rfl (RV.of (by intro _ _ h; cases h) (.inl rfl) (fun _ xd => HV.fa fl52_1 rfl)) ?_
    refine Dr.read 19 _ 46 _ rfl rfl rfl rfl rfl (RV.of (by intro _ _ h; cases h) (.inl rfl) (fun _ xd => HV.ld rfl va22 (rdc_ext xd (cells_at (hC35.ext X12) rfl)))) ?_
    have hrz : l.getD i (0, []) = z17 := gd hz19 rfl
    have hrin := hti.2.2.2.2 _ (List.mem_of_getElem? hz19)
    obtain rfl : z17 = z31 := (same_at hz19 hz33).symm
    have hdl44 := (decL_len z17.1).2
    refine Dr.eff 9 _ _ rfl (by intro d h; cases h; exact ⟨rfl, rfl⟩) rfl rfl rfl (EC.of (by intro _ _ h; cases h) (.inl rfl) (WV.call fn24 rfl (dec_ok (W := W) z17.1 (by omega)))) (fun v H' h => .inl (h.2)) ?_
    rintro _ H45 ⟨rfl, hx46⟩
    have X47 := Ext.trans X12 hx46
    have X48 := Ext.trans X13 hx46
    have hb49 := hb14.ext hx46
    refine Dr.read 10 _ 37 _ rfl rfl rfl rfl rfl (RV.of (by intro _ _ h; cases h) (.inl rfl) (fun _ xd => HV.adds rfl rfl (by simp only [ByteArray.size_append, bytesOf_size, bsz, List.length_append, List.length_cons, List.length_nil]; omega))) ?_
    refine Dr.read 11 _ 38 _ rfl rfl rfl rfl rfl (RV.of (by intro _ _ h; cases h) (.inl rfl) (fun _ xd => HV.adds rfl rfl (by simp only [ByteArray.size_append, bytesOf_size, bsz, List.length_append, List.length_cons, List.length_nil]; omega))) ?_
    refine Dr.eff 20 _ _ rfl (by intro d h; cases h; exact ⟨rfl, rfl⟩) rfl rfl rfl (EC.of (by intro _ _ h; cases h) (.inl rfl) (WV.call fn25 rfl (l06List_ok (hr42.ext X47) (by omega) hrin.2.2))) (fun v H' h => .inl (h.2)) ?_
    rintro _ H50 ⟨rfl, hx51⟩
    have X52 := Ext.trans X47 hx51
    have X53 := Ext.trans X48 hx51
    have hb54 := hb49.ext hx51
    refine Dr.read 21 _ 48 _ rfl rfl rfl rfl rfl (RV.of (by intro _ _ h; cases h) (.inl rfl) (fun _ xd => HV.adds rfl rfl (by have hw2 := wordsL_len z17.2; simp only [ByteArray.size_append, bytesOf_size, bsz, List.length_append, List.length_cons, List.length_nil]; omega))) ?_
    refine Dr.read 22 _ 49 _ rfl rfl rfl rfl rfl (RV.of (by intro _ _ h; cases h) (.inl rfl) (fun _ xd => HV.adds rfl rfl (by have hw2 := wordsL_len z17.2; simp only [ByteArray.size_append, bytesOf_size, bsz, List.length_append, List.length_cons, List.length_nil]; omega))) ?_
    refine Dr.read 23 _ 50 _ rfl rfl rfl rfl rfl (RV.of (by intro _ _ h; cases h) (.inl rfl) (fun _ xd => HV.adds rfl rfl (by have hw2 := wordsL_len z17.2; simp only [ByteArray.size_append, bytesOf_size, bsz, List.length_append, List.length_cons, List.length_nil]; omega))) ?_
    refine Dr.eff 24 _ _ rfl (by intro d h; cases h; exact ⟨rfl, rfl⟩) rfl rfl rfl (EC.of (by intro _ _ h; cases h) (.inl rfl) (WV.ofHV (HV.as rfl))) (fun v H' h => .inl (h.2 ▸ Ext.refl _)) ?_
    rintro u_ h_ ⟨e1_, e2_⟩
    rw [e1_, e2_]
    clear e1_ e2_ u_ h_
    refine Dr.fin rfl ?_
    refine nrm_blk (nrm_and ?_)
    refine AW.reg ?_
    refine AL.val rfl (.inl rfl) (HV.mv rfl) ?_
    refine AL.val rfl (.inl rfl) (HV.add rfl rfl (by omega)) ?_
    refine AL.val rfl (.inl rfl) (HV.as rfl) ?_
    refine AL.nil ?_
    refine nrm_and ?_
    exact ⟨(i + 1, (t ++ (((((bytesOf [114, 111, 119, 32]) ++ (bytesOf (decL z17.1))) ++ (bytesOf [32, 58])) ++ (bytesOf (wordsL z17.2))) ++ (bytesOf [10])))), ⟨X52, X53, hb54, by omega, by rw [tabT_succ, ht, hrz, words_one]; simp only [← bytesOf_app]; (first | done | (congr 1 <;> simp)), by have hw2 := wordsL_len z17.2; simp only [ByteArray.size_append, bytesOf_size, bsz, List.length_append, List.length_cons, List.length_nil]; omega, trivial⟩, by first | omega | (dsimp only; omega), ⟨rfl, rfl, rfl, rfl, trivial⟩⟩
  · -- else
    refine AW.exit ?_
    refine ex_and (ex_and (ex_blk ?_))
    refine nrm_and ?_
    refine AW.rs ?_
    refine AL.val rfl (.inl rfl) (HV.mv rfl) ?_
    refine AL.val rfl (.inl rfl) (HV.as rfl) ?_
    refine AL.nx ?_
    refine AW.ret ?_
    refine post_one rfl rfl ?_ (.inr rfl)
    exact ⟨congrArg Value.string (by obtain rfl : i = l.length := (by omega); exact ht), X12⟩

set_option maxRecDepth 100000 in
theorem specTX_ok {vs v : Value} {s : List Int} {l : List (Int × List Int)} {oks ok : Nat → Prop} (n : Int) (hs : RdK kI W H oks vs s) (hr : RdK (kP kI (kR kI)) W H ok v l) : ACalls Tryd.prog W 5 #[.agg #[.int .i64 n, vs, v]] H (fun r H' => r = .string (tabX n s l) ∧ Ext H H') := by
  refine ACalls.of (args := [.agg #[.int .i64 n, vs, v]]) Tryd.func5 rfl rfl ?_
  have X0 := Ext.refl H
  have hm1 := hs.max
  have hm2 := hr.max
  refine AW.rs ?_
  refine AL.w rfl (.inl rfl) (WV.bx rfl rfl) ?_
  rintro _ H4 ⟨b3, rfl, hx5, hn6, hb7⟩
  have o8 := Nat.le_trans X0.bd hn6
  have X9 := Ext.trans X0 hx5
  have X10 := Ext.refl H4
  refine AL.val rfl (.inl rfl) (HV.as rfl) ?_
  refine AL.nx ?_
  refine AW.seq ?_
  refine AW.rs ?_
  refine AL.w rfl (.inl rfl) (WV.call fn11 rfl (l06Ok_ok (hs.ext X9) (hr.ext X9) hb7)) ?_
  rintro _ H11 ⟨rfl, hx12⟩
  have X13 := Ext.trans X9 hx12
  have X14 := Ext.trans X10 hx12
  have hb15 := hb7.ext hx12
  refine AL.val rfl (.inl rfl) (HV.not rfl) ?_
  refine AL.nx ?_
  refine AW.ifn rfl (fun c16 => ?_) (fun c16 => ?_)
  · -- then
    refine AW.rs ?_
    refine AL.val rfl (.inl rfl) (HV.as rfl) ?_
    refine AL.nx ?_
    refine AW.ret ?_
    refine ret_and ?_
    refine post_one rfl rfl ?_ (.inr rfl)
    exact ⟨by unfold tabX; rw [if_neg c16]; rfl, X13⟩
  · -- else
    refine AW.skip ?_
    refine nrm_and ?_
    refine AW.rs ?_
    refine AL.w rfl (.inl rfl) (WV.call fn12 rfl (l06Text_ok (hs.ext X13) (hr.ext X13) hb15 (by assumption))) ?_
    rintro _ H17 ⟨rfl, hx18⟩
    have X19 := Ext.trans X13 hx18
    have X20 := Ext.trans X14 hx18
    have hb21 := hb15.ext hx18
    refine AL.val rfl (.inl rfl) (HV.as rfl) ?_
    refine AL.nx ?_
    refine AW.ret ?_
    refine post_one rfl rfl ?_ (.inr rfl)
    exact ⟨congrArg Value.string (by unfold tabX; rw [if_pos (by assumption)]), X19⟩

set_option maxRecDepth 100000 in
theorem cc_fresh {b n : Nat} {v : Value} (isl : IsSl v n) (hb : At W H b ⟨45, [.pointer none, v], 2⟩) : ACalls Tryd.prog W 29 #[.pointer (some ⟨b, 0, none⟩)] H (fun r H' => (At W H' b ⟨45, [.pointer (some ⟨b, 0, none⟩), v], 2⟩) ∧ But (fun x => x = b) H H') := by
  refine ACalls.of (args := [.pointer (some ⟨b, 0, none⟩)]) Tryd.func29 rfl rfl ?_
  have X0 := Ext.refl H
  obtain ⟨j, hj, hjz, hjs, hjb⟩ := info_parts in45
  have BT0 := But.refl (fun x => x = b) H
  refine AW.rs ?_
  refine AL.val rfl (.inl rfl) (HV.mv rfl) ?_
  refine AL.val rfl (.inl rfl) (HV.nc rfl) ?_
  refine AL.val rfl (.inl rfl) (HV.fa fl45_0 rfl) ?_
  refine AL.val rfl (.inl rfl) (HV.ld rfl va42 (at_cell hb rfl)) ?_
  refine AL.val rfl (.inl rfl) (HV.eqn (A := none) Tryd.underlying42 hj rfl rfl) ?_
  refine AL.nx ?_
  refine AW.cond rfl (fun _ => ?_) (fun h => by cases h)
  refine AW.reg ?_
  refine AL.val rfl (.inl rfl) (HV.mv rfl) ?_
  refine AL.val rfl (.inl rfl) (HV.mv rfl) ?_
  refine AL.val rfl (.inl rfl) (HV.toU Tryd.underlying42 Tryd.underlying70 hj (by rw [hjs]; decide) rfl hb (by decide)) ?_
  refine AL.val rfl (.inl rfl) (HV.extern rfl (fun w hw => by rw [show callFunc 38 #[.pointer (some ⟨b, 0, none⟩)] = callFunc 38 #[.pointer (some ⟨b, 0, none⟩)] from rfl, run_callFunc_extern Tryd.func38 (by kernel_rfl) (by kernel_rfl) (by kernel_rfl) (e := Extern.AbiNoEscape.same) (by kernel_rfl), Lib.run_noEscape]; rfl)) ?_
  refine AL.val rfl (.inl rfl) (HV.fromU Tryd.underlying70 Tryd.underlying42 hj rfl hb (by kernel_rfl)) ?_
  refine AL.val rfl (.inl rfl) (HV.nc rfl) ?_
  refine AL.val rfl (.inl rfl) (HV.fa fl45_0 rfl) ?_
  refine AL.w0 (.inl rfl) (WV.st rfl rfl va42 rfl hb (Nat.le_of_ble_eq_true rfl) (one_cons rfl one_nil)) ?_
  rintro _ H2 ⟨hx3, hb4⟩
  have B5 := But.trans BT0 hx3
  have q7 := Nat.le_trans X0.bd hx3.bd
  have hb8 : At W H2 b ⟨45, [.pointer (some ⟨b, 0, none⟩), v], 2⟩ := hb4
  refine AL.nil ?_
  refine post_none rfl ?_ (.inl rfl)
  exact ⟨hb8, B5⟩

set_option maxRecDepth 100000 in
theorem cc_used {b n : Nat} {v : Value} (isl : IsSl v n) (hb : At W H b ⟨45, [.pointer (some ⟨b, 0, none⟩), v], 2⟩) : ACalls Tryd.prog W 29 #[.pointer (some ⟨b, 0, none⟩)] H (fun r H' => (At W H' b ⟨45, [.pointer (some ⟨b, 0, none⟩), v], 2⟩) ∧ But (fun x => x = b) H H') := by
  refine ACalls.of (args := [.pointer (some ⟨b, 0, none⟩)]) Tryd.func29 rfl rfl ?_
  have X0 := Ext.refl H
  obtain ⟨j, hj, hjz, hjs, hjb⟩ := info_parts in45
  have BT0 := But.refl (fun x => x = b) H
  refine AW.rs ?_
  refine AL.val rfl (.inl rfl) (HV.mv rfl) ?_
  refine AL.val rfl (.inl rfl) (HV.nc rfl) ?_
  refine AL.val rfl (.inl rfl) (HV.fa fl45_0 rfl) ?_
  refine AL.val rfl (.inl rfl) (HV.ld rfl va42 (at_cell hb rfl)) ?_
  refine AL.val rfl (.inl rfl) (HV.eqn (A := some ⟨b, 0, none⟩) Tryd.underlying42 hj rfl rfl) ?_
  refine AL.nx ?_
  refine AW.cond rfl (fun h => by cases h) (fun _ => ?_)
  refine AW.rs ?_
  refine AL.val rfl (.inl rfl) (HV.mv rfl) ?_
  refine AL.val rfl (.inl rfl) (HV.nc rfl) ?_
  refine AL.val rfl (.inl rfl) (HV.fa fl45_0 rfl) ?_
  refine AL.val rfl (.inl rfl) (HV.ld rfl va42 (at_cell hb rfl)) ?_
  refine AL.val rfl (.inl rfl) (HV.mv rfl) ?_
  refine AL.val rfl (.inl rfl) (HV.nes' Tryd.underlying42 hj rfl rfl) ?_
  refine AL.nx ?_
  refine AW.cond rfl (fun h => by cases h) (fun _ => ?_)
  refine AW.skip ?_
  refine post_none rfl ?_ (.inl rfl)
  exact ⟨hb, BT0⟩

theorem strCells_app (a b : ByteArray) : Lib.strCells (a ++ b) = Lib.strCells a ++ Lib.strCells b := by simp [Lib.strCells, ByteArray.data_append]
theorem cc_any {b n : Nat} {v : Value} {pa : Option Addr} (hpa : pa = none ∨ pa = some ⟨b, 0, none⟩) (isl : IsSl v n) (hb : At W H b ⟨45, [.pointer pa, v], 2⟩) : ACalls Tryd.prog W 29 #[.pointer (some ⟨b, 0, none⟩)] H (fun r H' => (At W H' b ⟨45, [.pointer (some ⟨b, 0, none⟩), v], 2⟩) ∧ But (fun x => x = b) H H') := by
  rcases hpa with rfl | rfl
  · exact cc_fresh isl hb
  · exact cc_used isl hb

set_option maxRecDepth 100000 in
theorem ws_ok {b : Nat} {pa : Option Addr} (hpa : pa = none ∨ pa = some ⟨b, 0, none⟩) {v : Value} {T : ByteArray} {ok : Nat → Prop} (str : ByteArray) (hb : At W H b ⟨45, [.pointer pa, v], 2⟩) (hv : OwnV W H ok 5 1 v T.size (Lib.strCells T)) (hne : ∀ x, ok x → x ≠ b) (hsz : T.size + str.size ≤ 140737488355328) : ACalls Tryd.prog W 16 #[.pointer (some ⟨b, 0, none⟩), .string str] H (fun r H' => (∃ (n' : Int) (v' : Value), r = .tuple #[.int .i64 n', .nilIface] ∧ At W H' b ⟨45, [.pointer (some ⟨b, 0, none⟩), v'], 2⟩ ∧ OwnV W H' (fun x => ok x ∨ H.bd ≤ x) 5 1 v' (T ++ str).size (Lib.strCells (T ++ str))) ∧ But (fun x => x = b ∨ ok x) H H') := by
  refine ACalls.of (args := [.pointer (some ⟨b, 0, none⟩), .string str]) Tryd.func16 rfl rfl ?_
  have X0 := Ext.refl H
  have isl := hv.rd.isSl
  refine AW.rs ?_
  refine AL.val rfl (.inl rfl) (HV.as rfl) ?_
  refine AL.val rfl (.inl rfl) (HV.as rfl) ?_
  refine AL.nx ?_
  refine AW.rs ?_
  refine AL.val rfl (.inl rfl) (HV.mv rfl) ?_
  refine AL.w rfl (.inl rfl) (WV.call fn29 rfl (cc_any hpa isl hb)) ?_
  rintro _ H2 ⟨hb2, hx2⟩
  have hv2 := hv.but hx2 (fun x h1 _ e => hne x h1 e)
  have B2 := But.mono hx2 (fun x e => (.inl e : x = b ∨ ok x))
  have hbd2 := hx2.bd
  have hlt2 := hb2.lt
  refine AL.nx ?_
  refine AW.rs ?_
  refine AL.val rfl (.inl rfl) (HV.mv rfl) ?_
  refine AL.val rfl (.inl rfl) (HV.mv rfl) ?_
  refine AL.val rfl (.inl rfl) (HV.nc rfl) ?_
  refine AL.val rfl (.inl rfl) (HV.fa fl45_1 rfl) ?_
  refine AL.val rfl (.inl rfl) (HV.ld rfl va43 (at_cell_add (j := 1) hb2 rfl)) ?_
  refine AL.val rfl (.inl rfl) (HV.mv rfl) ?_
  refine AL.w rfl (.inl rfl) (WV.aps sl43 Tryd.underlying9 rfl rfl hv2 hsz) ?_
  rintro v3 H3 ⟨hx3, hv3⟩
  have hb3 := hb2.but hx3 (fun e => hne b (hv2.blk b e).1 rfl)
  have B3 := But.trans B2 (But.mono hx3 (fun x e => (.inr (hv2.blk x e).1 : x = b ∨ ok x)))
  have isl3 := hv3.rd.isSl
  refine AL.val rfl (.inl rfl) (HV.nc rfl) ?_
  refine AL.val rfl (.inl rfl) (HV.fa fl45_1 rfl) ?_
  refine AL.w0 (.inl rfl) (WV.st rfl rfl va43 (sl_size isl3) hb3 (Nat.le_of_ble_eq_true rfl) (sl_one isl3)) ?_
  rintro _ H4 ⟨hx4, hb4⟩
  rw [sl_cells isl3] at hb4
  have hb5 : At W H4 b ⟨45, [.pointer (some ⟨b, 0, none⟩), v3], 2⟩ := hb4
  have B4 := But.trans B3 (But.mono hx4 (fun x e => (.inl e : x = b ∨ ok x)))
  have hv4 := hv3.but hx4 (fun x h1 _ e => h1.elim (fun q => hne x (hv2.blk x q).1 e) (fun q => by have e' : x = b := e; omega))
  refine AL.nx ?_
  refine AW.rs ?_
  refine AL.val rfl (.inl rfl) (HV.mv rfl) ?_
  refine AL.val rfl (.inl rfl) (HV.lens Tryd.underlying9 rfl) ?_
  refine AL.val rfl (.inl rfl) (HV.as rfl) ?_
  refine AL.val rfl (.inl rfl) (HV.as rfl) ?_
  refine AL.nx ?_
  refine AW.ret ?_
  refine post_two rfl rfl rfl ?_ (.inr rfl)
  exact ⟨⟨_, v3, rfl, hb5, by rw [ByteArray.size_append, strCells_app]; exact hv4.ok (fun x h1 _ => h1.elim (fun q => .inl (hv2.blk x q).1) (fun q => .inr (Nat.le_trans hbd2 q)))⟩, B4⟩

set_option maxRecDepth 100000 in
theorem bstr_ok {b : Nat} {pa : Option Addr} {v : Value} {T : ByteArray} {ok : Nat → Prop} (hb : At W H b ⟨45, [.pointer pa, v], 2⟩) (hv : OwnV W H ok 5 1 v T.size (Lib.strCells T)) (h0 : 0 < T.size) : ACalls Tryd.prog W 18 #[.pointer (some ⟨b, 0, none⟩)] H (fun r H' => r = .string T ∧ But ok H H') := by
  refine ACalls.of (args := [.pointer (some ⟨b, 0, none⟩)]) Tryd.func18 rfl rfl ?_
  have X0 := Ext.refl H
  obtain ⟨g, c, rfl, hg, hat, hnc, hcm⟩ : ∃ g c, v = .slice (some ⟨g, 0, none⟩) T.size c ∧ ok g ∧ At W H g ⟨5, Lib.strCells T, c * 1⟩ ∧ T.size ≤ c ∧ c ≤ maxLen := by
    rcases hv.at_ with ⟨_, h⟩ | ⟨g, c, h1, h2, h3, h4, h5⟩
    · omega
    · exact ⟨g, c, h1, h2, h3, h4, h5⟩
  refine AW.rs ?_
  refine AL.val rfl (.inl rfl) (HV.as rfl) ?_
  refine AL.nx ?_
  refine AW.seq ?_
  refine AW.draw' [0, 1, 3, 7, 15, 0, 32, 96, 224, 480, 1023, 2047] mixed (by rfl) ?_
  refine Dr.read 0 _ 3 _ rfl rfl rfl rfl rfl (RV.of (by intro _ _ h; cases h) (.inl rfl) (fun _ xd => HV.mv rfl)) ?_
  refine Dr.read 1 _ 4 _ rfl rfl rfl rfl rfl (RV.of (by intro _ _ h; cases h) (.inl rfl) (fun _ xd => HV.nc rfl)) ?_
  refine Dr.read 2 _ 5 _ rfl rfl rfl rfl rfl (RV.of (by intro _ _ h; cases h) (.inl rfl) (fun _ xd => HV.fa fl45_1 rfl)) ?_
  refine Dr.read 3 _ 6 _ rfl rfl rfl rfl rfl (RV.of (by intro _ _ h; cases h) (.inl rfl) (fun _ xd => HV.ld rfl va43 (rdc_ext xd (at_cell_add (j := 1) hb rfl)))) ?_
  refine Dr.read 5 _ 8 _ rfl rfl rfl rfl rfl (RV.of (by intro _ _ h; cases h) (.inl rfl) (fun _ xd => HV.mv rfl)) ?_
  refine Dr.read 6 _ 9 _ rfl rfl rfl rfl rfl (RV.of (by intro _ _ h; cases h) (.inl rfl) (fun _ xd => HV.nc rfl)) ?_
  refine Dr.read 7 _ 10 _ rfl rfl rfl rfl rfl (RV.of (by intro _ _ h; cases h) (.inl rfl) (fun _ xd => HV.fa fl45_1 rfl)) ?_
  refine Dr.read 8 _ 11 _ rfl rfl rfl rfl rfl (RV.of (by intro _ _ h; cases h) (.inl rfl) (fun _ xd => HV.ld rfl va43 (rdc_ext xd (at_cell_add (j := 1) hb rfl)))) ?_
  refine Dr.read 9 _ 12 _ rfl rfl rfl rfl rfl (RV.of (by intro _ _ h; cases h) (.inl rfl) (fun _ xd => HV.len Tryd.underlying43 rfl ⟨_, _, rfl⟩)) ?_
  refine Dr.read 4 _ 7 _ rfl rfl rfl rfl rfl (RV.of (by intro _ _ h; cases h) (.inl rfl) (fun _ xd => HV.usd rfl (by omega))) ?_
  refine Dr.eff 10 _ _ rfl (by intro d h; cases h; exact ⟨rfl, rfl⟩) rfl rfl rfl (EC.of (by intro _ _ h; cases h) (.inl rfl) (WV.ust Tryd.underlying65 (by kernel_rfl) rfl rfl hat h0 (by omega) (by simp only [maxLen] at hcm; omega))) (fun v H' h => .inr (.inl rfl)) ?_
  rintro _ H2 ⟨rfl, hx2⟩
  refine Dr.read 11 _ 2 _ rfl rfl rfl rfl rfl (RV.of (by intro _ _ h; cases h) (.inl rfl) (fun _ xd => HV.as rfl)) ?_
  refine Dr.fin rfl ?_
  refine nrm_and ?_
  refine AW.ret ?_
  refine post_one rfl rfl ?_ (.inr rfl)
  exact ⟨rfl, But.mono hx2 (fun x e => by have e' : x = g := e; rw [e']; exact hg)⟩

/-- What a builder holds. -/
def BldV (W : World) (H : Hp) (ok : Nat → Prop) (v : Value) (T : ByteArray) : Prop := OwnV W H ok 5 1 v T.size (Lib.strCells T)
theorem BldV.ext {H' : Hp} {ok : Nat → Prop} {v : Value} {T : ByteArray} (h : BldV W H ok v T) (k : Ext H H') : BldV W H' ok v T := OwnV.ext h k
theorem BldV.but {H' : Hp} {ok out : Nat → Prop} {v : Value} {T : ByteArray} (h : BldV W H ok v T) (k : But out H H') (ho : ∀ b, ok b → b < H.bd → out b → False) (_ : ∀ b, out b → W.heap.size ≤ b) : BldV W H' ok v T := OwnV.but h k (fun b h1 h2 h3 => ho b h1 h2 h3)
theorem BldV.nil (ok : Nat → Prop) : BldV W H ok (.slice none 0 0) ByteArray.empty := OwnV.nil _ _ _
theorem BldV.okk {ok ok' : Nat → Prop} {v : Value} {T : ByteArray} (h : BldV W H ok v T) (k : ∀ b, ok b → b < H.bd → ok' b) : BldV W H ok' v T := OwnV.ok h k
theorem BldV.ltb {ok : Nat → Prop} {v : Value} {T : ByteArray} (h : BldV W H ok v T) : ∀ b, some b = v.ownBlock → b < H.bd := fun b hb => (OwnV.blk h b hb).2.1

set_option maxRecDepth 100000 in
theorem implTX_ok {vs v : Value} {s : List Int} {l : List (Int × List Int)} {oks ok : Nat → Prop} (n : Int) (hs : RdK kI W H oks vs s) (hr : RdK (kP kI (kR kI)) W H ok v l) : ACalls Tryd.prog W 7 #[.agg #[.int .i64 n, vs, v]] H (fun r H' => r = .string (tabX n s l) ∧ Ext H H') := by
  refine ACalls.of (args := [.agg #[.int .i64 n, vs, v]]) Tryd.func7 rfl rfl ?_
  have X0 := Ext.refl H
  have hm1 := hs.max
  have hm2 := hr.max
  refine AW.rs ?_
  refine AL.w rfl (.inl rfl) (WV.bx rfl rfl) ?_
  rintro _ H4 ⟨b3, rfl, hx5, hn6, hb7⟩
  have o8 := Nat.le_trans X0.bd hn6
  have X9 := Ext.trans X0 hx5
  have X10 := Ext.refl H4
  refine AL.val rfl (.inl rfl) (HV.as rfl) ?_
  refine AL.nx ?_
  refine AW.seq ?_
  refine AW.rs ?_
  refine AL.val rfl (.inl rfl) (HV.lda (cs := [.int .i64 n, vs, v]) rfl va30 (at_cells hb7 rfl)) ?_
  refine AL.w rfl (.inl rfl) (WV.call fn15 rfl (implVT_ok n (hs.ext X9) (hr.ext X9))) ?_
  rintro _ H11 ⟨rfl, hx12⟩
  have X13 := Ext.trans X9 hx12
  have X14 := Ext.trans X10 hx12
  have hb15 := hb7.ext hx12
  refine AL.val rfl (.inl rfl) (HV.not rfl) ?_
  refine AL.nx ?_
  refine AW.ifn rfl (fun c16 => ?_) (fun c16 => ?_)
  · -- then
    refine AW.rs ?_
    refine AL.val rfl (.inl rfl) (HV.as rfl) ?_
    refine AL.nx ?_
    refine AW.ret ?_
    refine ret_and ?_
    refine post_one rfl rfl ?_ (.inr rfl)
    exact ⟨by unfold tabX; rw [if_neg c16]; rfl, X13⟩
  · -- else
    refine AW.skip ?_
    refine nrm_and ?_
    refine AW.rs ?_
    have X17 := Ext.refl H11
    have hb1lt := hb15.lt
    have hlo := X13.bd
    have hok : okT n s l := (by assumption)
    have hti := tab_in hok
    have hn100 := hti.1
    have hsb := hti.2.1
    have hs7 := hti.2.2.1
    have hwl := wordsL_len (([n] : List Int) ++ s)
    simp only [List.length_append, List.length_cons, List.length_nil] at hwl
    refine AL.val rfl (.inl rfl) (HV.bd rfl (by kernel_rfl : Tryd.prog.built 45 [] = some #[.pointer none, .slice none 0 0])) ?_
    refine AL.w rfl (.inl rfl) (WV.al ze45 rfl) ?_
    rintro _ H19 ⟨b18, rfl, hx20, hn21, hb22⟩
    have o23 := Nat.le_trans X13.bd hn21
    have o24 := Nat.le_trans X14.bd hn21
    have o25 := Nat.le_trans X17.bd hn21
    have ne26 : b3 ≠ b18 := by have := hb15.lt; omega
    have X27 := Ext.trans X13 hx20
    have X28 := Ext.trans X14 hx20
    have X29 := Ext.trans X17 hx20
    have hb30 := hb15.ext hx20
    have X31 := Ext.refl H19
    refine AL.w0 (.inl rfl) (WV.st rfl rfl va45 rfl hb22 (Nat.le_of_ble_eq_true rfl) (one_cons rfl (one_cons (sl_one1 ⟨none, 0, rfl⟩) one_nil))) ?_
    rintro _ H32 ⟨hx33, hb34⟩
    have X35 := Ext.thru X27 hx33 (fun z_ hz_ => by rw [hz_]; exact o23)
    have X36 := Ext.thru X28 hx33 (fun z_ hz_ => by rw [hz_]; exact o24)
    have X37 := Ext.thru X29 hx33 (fun z_ hz_ => by rw [hz_]; exact o25)
    have hb39 := hb30.but hx33 ne26
    have hb40 : At W H32 b18 ⟨45, [.pointer none, (.slice none 0 0)], 2⟩ := hb34
    refine AL.nx ?_
    refine AW.rs ?_
    refine AL.val rfl (.inl rfl) (HV.fa fl30_0 rfl) ?_
    refine AL.val rfl (.inl rfl) (HV.ld rfl va2 (at_cell hb39 rfl)) ?_
    have X41 := Ext.refl H32
    have y42 := hb39.lt
    have y43 := hb40.lt
    have o44 := X35.bd
    have o45 := X36.bd
    have o46 := X37.bd
    have o47 := X41.bd
    refine AL.w rfl (.inl rfl) (WV.bsK (K := kI) (l := ([n] : List Int)) (css := [[.int .i64 n]]) sl22 rfl rfl (by first | rfl | (simp [Instr.fill, Value.cells, kI, kB, kU, kU8, kS, Kd.sc]; done) | (simp [Instr.fill, Value.cells, kI, kB, kU, kU8, kS, Kd.sc, rng1, rng2, rng3, rng4, kP])) rfl (segs_cons rfl segs_nil)) ?_
    rintro v48 H49 ⟨hx50, ho51⟩
    have X52 := Ext.trans X35 hx50
    have X53 := Ext.trans X36 hx50
    have X54 := Ext.trans X37 hx50
    have X55 := Ext.trans X41 hx50
    have hb56 := hb39.ext hx50
    have hb57 := hb40.ext hx50
    refine AL.val rfl (.inl rfl) (HV.fa fl30_1 rfl) ?_
    refine AL.val rfl (.inl rfl) (HV.ld rfl va22 (at_cell_add (j := 1) hb56 rfl)) ?_
    have X59 := Ext.refl H49
    refine AL.w rfl (.inl rfl) (WV.apk sl22 rfl rfl ho51 (hs.lo.ext X52) (by simp; omega) (by simp; omega) (fun b hb _ e => by have h1 : H32.bd ≤ b := (ho51.blk b e).1; have h2 : b < H.bd := hb; have h3 := o44; omega)) ?_
    rintro v60 H61 ⟨hx62, ho63, hb64⟩
    have ho65 := ho63.narrow (ok' := fun b => H32.bd ≤ b) kI_flat (fun b q => (hb64 b q).elim (fun e => (ho51.blk b e).1) (fun e => Nat.le_trans X55.bd e))
    have X66 := Ext.thru X52 hx62 (fun b hb => Nat.le_trans o44 (ho51.blk b hb).1)
    have X67 := Ext.thru X53 hx62 (fun b hb => Nat.le_trans o45 (ho51.blk b hb).1)
    have X68 := Ext.thru X54 hx62 (fun b hb => Nat.le_trans o46 (ho51.blk b hb).1)
    have X69 := Ext.thru X55 hx62 (fun b hb => Nat.le_trans o47 (ho51.blk b hb).1)
    have hb71 := hb56.but hx62 (fun e => by have q : H32.bd ≤ _ := (ho51.blk _ e).1; omega)
    have hb72 := hb57.but hx62 (fun e => by have q : H32.bd ≤ _ := (ho51.blk _ e).1; omega)
    refine AL.w rfl (.inl rfl) (WV.call fn17 rfl (words_ok (bytesOf [116, 97, 98, 108, 101]) ho65.rd (by simp only [ByteArray.size_append, bytesOf_size, bsz, List.length_append, List.length_cons, List.length_nil]; omega) (by simp; omega) (fun x hx => by rcases List.mem_append.1 hx with h | h; (simp at h; omega); (exact hsb x h)))) ?_
    rintro _ H73 ⟨rfl, hx74⟩
    have X75 := Ext.trans X66 hx74
    have X76 := Ext.trans X67 hx74
    have X77 := Ext.trans X68 hx74
    have X78 := Ext.trans X69 hx74
    have ho79 := ho65.ext hx74
    have hb80 := hb71.ext hx74
    have hb81 := hb72.ext hx74
    refine AL.val rfl (.inl rfl) (HV.adds rfl rfl (by simp only [ByteArray.size_append, bytesOf_size, bsz, List.length_append, List.length_cons, List.length_nil]; omega)) ?_
    have hb3lt := hb81.lt
    have hb3lo : H11.bd ≤ b18 := o25
    have hlohc : H11.bd ≤ H73.bd := by omega
    refine AL.w rfl (.inl rfl) (WV.call fn16 rfl (ws_ok (b := b18) (T := ByteArray.empty) (ok := fun x => H73.bd ≤ x) (.inl rfl) (((bytesOf [116, 97, 98, 108, 101]) ++ bytesOf (wordsL ((([n] : List Int) : List Int) ++ s))) ++ (bytesOf [10])) hb81 (BldV.nil (fun x => H73.bd ≤ x)) (fun x h1 e => by have h2 : H73.bd ≤ x := h1; omega) (by have e0 : ByteArray.empty.size = 0 := rfl; simp only [ByteArray.size_append, bytesOf_size, bsz, List.length_append, List.length_cons, List.length_nil]; omega))) ?_
    rintro _ H84 ⟨⟨n82, v83, rfl, hb85, hv86⟩, hx87⟩
    have hx88 := But.mono hx87 (fun x e => (e.elim (fun q => by rw [q]; exact ⟨by omega, trivial⟩) (fun q => ⟨Nat.le_trans hlohc q, trivial⟩) : H11.bd ≤ x ∧ True))
    have hv89 : BldV W H84 (fun x => H73.bd ≤ x) v83 (ByteArray.empty ++ (((bytesOf [116, 97, 98, 108, 101]) ++ bytesOf (wordsL ((([n] : List Int) : List Int) ++ s))) ++ (bytesOf [10]))) := (show BldV W H84 (fun x => H73.bd ≤ x ∨ H73.bd ≤ x) v83 (ByteArray.empty ++ (((bytesOf [116, 97, 98, 108, 101]) ++ bytesOf (wordsL ((([n] : List Int) : List Int) ++ s))) ++ (bytesOf [10]))) from hv86).okk (fun x q _ => q.elim id (fun q => q))
    have X90 := Ext.thru X75 hx88 (fun b hb => Nat.le_trans hlo hb.1)
    have hb94 := hb80.but hx88 (fun e => by have q : H11.bd ≤ b3 ∧ True := e; omega)
    refine AL.nx ?_
    refine AW.seq ?_
    refine AW.rs ?_
    refine AL.val rfl (.inl rfl) (HV.fa fl30_2 rfl) ?_
    refine AL.val rfl (.inl rfl) (HV.ld rfl va28 (at_cell_add (j := 2) hb94 rfl)) ?_
    refine AL.val rfl (.inl rfl) (HV.len Tryd.underlying28 rfl hr.isSl) ?_
    refine AL.val rfl (.inl rfl) (HV.mv rfl) ?_
    refine AL.nx ?_
    refine AW.block ?_
    refine AW.loop (σ := Nat × Value × ByteArray) (fun ⟨i, vv, Tt⟩ => [(2, .string (bytesOf [])), (3, .pointer (some ⟨b18, 0, none⟩)), (20, v), (21, .int .i64 (l.length : Int)), (22, .int .i64 (i : Int))]) (fun ⟨i, vv, Tt⟩ H' => Ext H H' ∧ At W H' b3 ⟨30, [.int .i64 n, vs, v], 3⟩ ∧ i ≤ l.length ∧ Tt = bytesOf (tabT n s l i) ∧ Tt.size ≤ 100 + 60 * i ∧ At W H' b18 ⟨45, [.pointer (some ⟨b18, 0, none⟩), vv], 2⟩ ∧ BldV W H' (fun x => H73.bd ≤ x) vv Tt ∧ H73.bd ≤ H'.bd ∧ True) (fun ⟨i, vv, Tt⟩ => l.length - i) (0, v83, (ByteArray.empty ++ (((bytesOf [116, 97, 98, 108, 101]) ++ bytesOf (wordsL ((([n] : List Int) : List Int) ++ s))) ++ (bytesOf [10])))) ⟨X90, hb94, Nat.zero_le _, by rw [tabT_zero, ByteArray.empty_append]; simp only [← bytesOf_app]; (first | done | (congr 1 <;> simp)), by rw [ByteArray.empty_append]; simp only [ByteArray.size_append, bytesOf_size, bsz, List.length_append, List.length_cons, List.length_nil]; omega, hb85, hv89, hx88.bd, trivial⟩ ⟨rfl, rfl, rfl, rfl, rfl, trivial⟩ ?_
    rintro ⟨i, vv, Tt⟩ H95 ⟨X96, hb97, hi, ht, hts, hbB, hbv, hhc, _⟩
    refine AW.rs ?_
    refine AL.val rfl (.inl rfl) (HV.lti rfl rfl) ?_
    refine AL.nx ?_
    refine AW.seq ?_
    refine AW.ifd rfl (fun c98 => ?_) (fun c98 => ?_)
    · -- then
      refine AW.skip ?_
      refine nrm_and ?_
      refine AW.seq ?_
      refine AW.block ?_
      refine AW.rs ?_
      obtain ⟨p99, z100, cs101, hz102, hK103, hC104, hP105⟩ := RdK.ix (q := (i : Int)) hr sl28 (by omega) (by omega)
      obtain ⟨cs106, cs107, rfl, hK108, hK109⟩ := hK103
      obtain rfl : cs106 = [.int .i64 z100.1] := hK108
      obtain ⟨v110, rfl, hr111⟩ := hK109
      have hm112 := hr111.max
      refine AL.val rfl (.inl rfl) (hP105 rfl rfl) ?_
      refine AL.val rfl (.inl rfl) (HV.lda (cs := [.int .i64 z100.1, v110]) rfl va52 (hC104.ext X96)) ?_
      have ho113 := hbv.okk (ok' := fun b => H73.bd ≤ b ∧ b < H95.bd) (fun b hb hlt => ⟨hb, hlt⟩)
      refine AL.w rfl (.inl rfl) (WV.al ze52 rfl) ?_
      rintro _ H115 ⟨b114, rfl, hx116, hn117, hb118⟩
      have o119 := Nat.le_trans X96.bd hn117
      have o120 := Nat.le_trans hhc hn117
      have ne121 : b3 ≠ b114 := by have := hb97.lt; omega
      have ne122 : b18 ≠ b114 := by have := hbB.lt; omega
      have q123 := Nat.le_trans hhc hx116.bd
      have X124 := Ext.trans X96 hx116
      have ho125 := ho113.ext hx116
      have hb126 := hb97.ext hx116
      have hb127 := hbB.ext hx116
      have X128 := Ext.refl H115
      refine AL.w0 (.inl rfl) (WV.st rfl rfl va52 rfl hb118 (Nat.le_of_ble_eq_true rfl) (one_cons rfl (one_cons (sl_one1 (hr111.ext X124).isSl) one_nil))) ?_
      rintro _ H129 ⟨hx130, hb131⟩
      have q132 := Nat.le_trans q123 hx130.bd
      have X133 := Ext.thru X124 hx130 (fun z_ hz_ => by rw [hz_]; exact o119)
      have ho135 := ho125.but hx130 (fun b hb _ e => by have hb' : H73.bd ≤ b ∧ b < H95.bd := hb; have e' : b = b114 := e; omega) (fun z_ hz_ => by rw [hz_]; exact hb118.w)
      have hb136 := hb126.but hx130 ne121
      have hb137 := hb127.but hx130 ne122
      have hb138 : At W H129 b114 ⟨52, [.int .i64 z100.1, v110], 2⟩ := hb131
      refine AL.nx ?_
      refine AW.draw' [0, 1, 3, 7, 15, 0, 32, 127, 255, 511] mixed (by rfl) ?_
      have hrz : l.getD i (0, []) = z100 := gd hz102 rfl
      have hrin := hti.2.2.2.2 _ (List.mem_of_getElem? hz102)
      have hw2 := wordsL_len z100.2
      have hw1 := wordsL_len [z100.1]
      simp only [List.length_cons, List.length_nil] at hw1
      refine Dr.read 0 _ 26 _ rfl rfl rfl rfl rfl (RV.of (by intro _ _ h; cases h) (.inl rfl) (fun _ xd => HV.fa fl52_0 rfl)) ?_
      refine Dr.read 1 _ 27 _ rfl rfl rfl rfl rfl (RV.of (by intro _ _ h; cases h) (.inl rfl) (fun _ xd => HV.ld rfl va2 (rdc_ext xd (at_cell hb138 rfl)))) ?_
      refine Dr.read 5 _ 31 _ rfl rfl rfl rfl rfl (RV.of (by intro _ _ h; cases h) (.inl rfl) (fun _ xd => HV.fa fl52_1 rfl)) ?_
      refine Dr.read 6 _ 32 _ rfl rfl rfl rfl rfl (RV.of (by intro _ _ h; cases h) (.inl rfl) (fun _ xd => HV.ld rfl va22 (rdc_ext xd (at_cell_add (j := 1) hb138 rfl)))) ?_
      have X139 := Ext.refl H129
      have y140 := hb136.lt
      have y141 := hb137.lt
      have y142 := hb138.lt
      have o143 := X133.bd
      have o144 := X139.bd
      have a145 := ho135.ltb
      refine Dr.eff 2 _ _ rfl (by intro d h; cases h; exact ⟨rfl, rfl⟩) rfl rfl rfl (EC.of (by intro _ _ h; cases h) (.inl rfl) (WV.bsK (K := kI) (l := ([z100.1] : List Int)) (css := [[.int .i64 z100.1]]) sl22 rfl rfl (by first | rfl | (simp [Instr.fill, Value.cells, kI, kB, kU, kU8, kS, Kd.sc]; done) | (simp [Instr.fill, Value.cells, kI, kB, kU, kU8, kS, Kd.sc, rng1, rng2, rng3, rng4, kP])) rfl (segs_cons rfl segs_nil))) (fun v H' h => .inl (h.1)) ?_
      rintro v146 H147 ⟨hx148, ho149⟩
      have q150 := Nat.le_trans q132 hx148.bd
      have X151 := Ext.trans X133 hx148
      have X152 := Ext.trans X139 hx148
      have ho153 := ho135.ext hx148
      have hb154 := hb136.ext hx148
      have hb155 := hb137.ext hx148
      have hb156 := hb138.ext hx148
      refine Dr.eff 3 _ _ rfl (by intro d h; cases h; exact ⟨rfl, rfl⟩) rfl rfl rfl (EC.of (by intro _ _ h; cases h) (.inl rfl) (WV.call fn17 rfl (words_ok (bytesOf [114, 111, 119]) ho149.rd (by simp only [ByteArray.size_append, bytesOf_size, bsz, List.length_append, List.length_cons, List.length_nil]; omega) (by simp) (fun x hx => by simp at hx; have := hrin.1; omega)))) (fun v H' h => .inl (h.2)) ?_
      rintro _ H158 ⟨rfl, hx159⟩
      have q160 := Nat.le_trans q150 hx159.bd
      have X161 := Ext.trans X151 hx159
      have X162 := Ext.trans X152 hx159
      have ho163 := ho153.ext hx159
      have ho164 := ho149.ext hx159
      have hb165 := hb154.ext hx159
      have hb166 := hb155.ext hx159
      have hb167 := hb156.ext hx159
      refine Dr.read 4 _ 30 _ rfl rfl rfl rfl rfl (RV.of (by intro _ _ h; cases h) (.inl rfl) (fun _ xd => HV.adds rfl rfl (by simp only [ByteArray.size_append, bytesOf_size, bsz, List.length_append, List.length_cons, List.length_nil]; omega))) ?_
      refine Dr.eff 7 _ _ rfl (by intro d h; cases h; exact ⟨rfl, rfl⟩) rfl rfl rfl (EC.of (by intro _ _ h; cases h) (.inl rfl) (WV.call fn17 rfl (words_ok (((bytesOf [114, 111, 119]) ++ bytesOf (wordsL (([z100.1] : List Int) : List Int))) ++ (bytesOf [32, 58])) (hr111.ext X161) (by simp only [ByteArray.size_append, bytesOf_size, bsz, List.length_append, List.length_cons, List.length_nil]; omega) (by omega) hrin.2.2))) (fun v H' h => .inl (h.2)) ?_
      rintro _ H168 ⟨rfl, hx169⟩
      have q170 := Nat.le_trans q160 hx169.bd
      have X171 := Ext.trans X161 hx169
      have X172 := Ext.trans X162 hx169
      have ho173 := ho163.ext hx169
      have ho174 := ho164.ext hx169
      have hb175 := hb165.ext hx169
      have hb176 := hb166.ext hx169
      have hb177 := hb167.ext hx169
      refine Dr.read 8 _ 34 _ rfl rfl rfl rfl rfl (RV.of (by intro _ _ h; cases h) (.inl rfl) (fun _ xd => HV.adds rfl rfl (by simp only [ByteArray.size_append, bytesOf_size, bsz, List.length_append, List.length_cons, List.length_nil]; omega))) ?_
      refine Dr.eff 9 _ _ rfl (by intro d h; cases h; exact ⟨rfl, rfl⟩) rfl rfl rfl (EC.of (by intro _ _ h; cases h) (.inl rfl) (WV.call fn16 rfl (ws_ok (b := b18) (T := Tt) (ok := fun x => H73.bd ≤ x) (.inr rfl) (((((bytesOf [114, 111, 119]) ++ bytesOf (wordsL (([z100.1] : List Int) : List Int))) ++ (bytesOf [32, 58])) ++ bytesOf (wordsL z100.2)) ++ (bytesOf [10])) hb176 (ho173.okk (ok' := fun b => H73.bd ≤ b) (fun b hb _ => hb.1)) (fun x h1 e => by have h2 : H73.bd ≤ x := h1; omega) (by have e0 : ByteArray.empty.size = 0 := rfl; simp only [ByteArray.size_append, bytesOf_size, bsz, List.length_append, List.length_cons, List.length_nil]; omega)))) (fun v H' h => .inr (.inl rfl)) ?_
      rintro _ H180 ⟨⟨n178, v179, rfl, hb181, hv182⟩, hx183⟩
      have hx184 := But.mono hx183 (fun x e => (e.elim (fun q => by rw [q]; exact ⟨by omega, trivial⟩) (fun q => ⟨Nat.le_trans hlohc q, trivial⟩) : H11.bd ≤ x ∧ True))
      have hv185 : BldV W H180 (fun x => H73.bd ≤ x) v179 (Tt ++ (((((bytesOf [114, 111, 119]) ++ bytesOf (wordsL (([z100.1] : List Int) : List Int))) ++ (bytesOf [32, 58])) ++ bytesOf (wordsL z100.2)) ++ (bytesOf [10]))) := (show BldV W H180 (fun x => H73.bd ≤ x ∨ H168.bd ≤ x) v179 (Tt ++ (((((bytesOf [114, 111, 119]) ++ bytesOf (wordsL (([z100.1] : List Int) : List Int))) ++ (bytesOf [32, 58])) ++ bytesOf (wordsL z100.2)) ++ (bytesOf [10]))) from hv182).okk (fun x q _ => q.elim id (fun q => Nat.le_trans q170 q))
      have q186 := Nat.le_trans q170 hx184.bd
      have X187 := Ext.thru X171 hx184 (fun b hb => Nat.le_trans hlo hb.1)
      have hb189 := hb175.but hx184 (fun e => by have q : H11.bd ≤ b3 ∧ True := e; omega)
      refine Dr.fin rfl ?_
      refine nrm_blk (nrm_and ?_)
      refine AW.reg ?_
      refine AL.val rfl (.inl rfl) (HV.add rfl rfl (by omega)) ?_
      refine AL.val rfl (.inl rfl) (HV.mv rfl) ?_
      refine AL.nil ?_
      refine nrm_and ?_
      exact ⟨(i + 1, v179, (Tt ++ (((((bytesOf [114, 111, 119]) ++ bytesOf (wordsL (([z100.1] : List Int) : List Int))) ++ (bytesOf [32, 58])) ++ bytesOf (wordsL z100.2)) ++ (bytesOf [10])))), ⟨X187, hb189, by omega, by rw [tabT_succ, ht, hrz]; simp only [← bytesOf_app]; (first | done | (congr 1 <;> simp)), by simp only [ByteArray.size_append, bytesOf_size, bsz, List.length_append, List.length_cons, List.length_nil]; omega, hb181, hv185, q186, trivial⟩, by first | omega | (dsimp only; omega), ⟨rfl, rfl, rfl, rfl, rfl, trivial⟩⟩
    · -- else
      refine AW.exit ?_
      refine ex_and (ex_and (ex_blk ?_))
      refine nrm_and ?_
      refine AW.rs ?_
      refine AL.w rfl (.inl rfl) (WV.call fn18 rfl (bstr_ok (T := Tt) hbB hbv (by rw [ht, bytesOf_size]; simp [tabT]))) ?_
      rintro _ H191 ⟨rfl, hx192⟩
      have hx193 := But.mono hx192 (fun x q => (⟨Nat.le_trans hlohc q, trivial⟩ : H11.bd ≤ x ∧ True))
      have q194 := Nat.le_trans hhc hx193.bd
      have X195 := Ext.thru X96 hx193 (fun b hb => Nat.le_trans hlo hb.1)
      refine AL.val rfl (.inl rfl) (HV.as rfl) ?_
      refine AL.nx ?_
      refine AW.ret ?_
      refine post_one rfl rfl ?_ (.inr rfl)
      exact ⟨congrArg Value.string (by unfold tabX; rw [if_pos hok, ht]; congr 2; omega), X195⟩

set_option maxRecDepth 100000 in
theorem law_TableText {vs v : Value} {s : List Int} {l : List (Int × List Int)} {oks ok : Nat → Prop} (n : Int) (hs : RdK kI W H oks vs s) (hr : RdK (kP kI (kR kI)) W H ok v l) : ACalls Tryd.prog W 3 #[.agg #[.int .i64 n, vs, v]] H (fun r H' => r = .bool true ∧ Ext H H') := by
  refine ACalls.of (args := [.agg #[.int .i64 n, vs, v]]) Tryd.func3 rfl rfl ?_
  have X0 := Ext.refl H
  have hm1 := hs.max
  have hm2 := hr.max
  refine AW.rs ?_
  refine AL.w rfl (.inl rfl) (WV.bx rfl rfl) ?_
  rintro _ H4 ⟨b3, rfl, hx5, hn6, hb7⟩
  have o8 := Nat.le_trans X0.bd hn6
  have X9 := Ext.trans X0 hx5
  have X10 := Ext.refl H4
  refine AL.val rfl (.inl rfl) (HV.as rfl) ?_
  refine AL.nx ?_
  refine AW.rs ?_
  refine AL.val rfl (.inl rfl) (HV.as rfl) ?_
  refine AL.nx ?_
  refine AW.rs ?_
  refine AL.val rfl (.inl rfl) (HV.lda (cs := [.int .i64 n, vs, v]) rfl va25 (at_cells hb7 rfl)) ?_
  refine AL.val rfl (.inl rfl) (HV.mv rfl) ?_
  refine AL.w rfl (.inl rfl) (WV.call fn4 rfl (szTable_ok n (hs.ext X9) (hr.ext X9) 1048576 (by omega))) ?_
  rintro _ H11 ⟨⟨q13, rfl, ha14, hb15, he16⟩, hx12⟩
  have X17 := Ext.trans X9 hx12
  have X18 := Ext.trans X10 hx12
  have hb19 := hb7.ext hx12
  refine AL.val rfl (.inl rfl) (HV.as rfl) ?_
  refine AL.nx ?_
  refine AW.seq ?_
  refine AW.rs ?_
  refine AL.val rfl (.inl rfl) (HV.mv rfl) ?_
  refine AL.val rfl (.inl rfl) (HV.lti rfl rfl) ?_
  refine AL.nx ?_
  refine AW.ifd rfl (fun c20 => ?_) (fun c20 => ?_)
  · -- then
    refine AW.rs ?_
    refine AL.val rfl (.inl rfl) (HV.as rfl) ?_
    refine AL.nx ?_
    refine AW.ret ?_
    refine ret_and ?_
    refine post_one rfl rfl ?_ (.inr rfl)
    exact ⟨rfl, X17⟩
  · -- else
    refine AW.skip ?_
    refine nrm_and ?_
    refine AW.rs ?_
    refine AL.val rfl (.inl rfl) (HV.lda (cs := [.int .i64 n, vs, v]) rfl va25 (at_cells hb19 rfl)) ?_
    refine AL.w rfl (.inl rfl) (WV.call fn6 rfl (toTable_ok n (hs.ext X17) (hr.ext X17) (he16 (by omega)).1 (he16 (by omega)).2)) ?_
    rintro _ H23 ⟨⟨u21, v22, rfl, ho25, ho26⟩, hx24⟩
    have X29 := Ext.trans X17 hx24
    have X30 := Ext.trans X18 hx24
    have hb31 := hb19.ext hx24
    have X32 := Ext.refl H23
    have hr27 := ho25.rd
    have hr28 := ho26.rd.le (le_P (Le.refl _) (le_OR (Le.refl _)))
    refine AL.w rfl (.inl rfl) (WV.call fn5 rfl (specTX_ok n hr27 hr28)) ?_
    rintro _ H33 ⟨rfl, hx34⟩
    have X35 := Ext.trans X29 hx34
    have X36 := Ext.trans X30 hx34
    have X37 := Ext.trans X32 hx34
    have hb38 := hb31.ext hx34
    refine AL.val rfl (.inl rfl) (HV.as rfl) ?_
    refine AL.nx ?_
    refine AW.rs ?_
    refine AL.val rfl (.inl rfl) (HV.lda (cs := [.int .i64 n, vs, v]) rfl va25 (at_cells hb38 rfl)) ?_
    refine AL.w rfl (.inl rfl) (WV.call fn6 rfl (toTable_ok n (hs.ext X35) (hr.ext X35) (he16 (by omega)).1 (he16 (by omega)).2)) ?_
    rintro _ H41 ⟨⟨u39, v40, rfl, ho43, ho44⟩, hx42⟩
    have X47 := Ext.trans X35 hx42
    have X48 := Ext.trans X36 hx42
    have X49 := Ext.trans X37 hx42
    have hb50 := hb38.ext hx42
    have X51 := Ext.refl H41
    have hr45 := ho43.rd
    have hr46 := ho44.rd.le (le_P (Le.refl _) (le_OR (Le.refl _)))
    refine AL.w rfl (.inl rfl) (WV.al ze30 rfl) ?_
    rintro _ H53 ⟨b52, rfl, hx54, hn55, hb56⟩
    have o57 := Nat.le_trans X47.bd hn55
    have o58 := Nat.le_trans X48.bd hn55
    have o59 := Nat.le_trans X49.bd hn55
    have o60 := Nat.le_trans X51.bd hn55
    have ne61 : b3 ≠ b52 := by have := hb50.lt; omega
    have X62 := Ext.trans X47 hx54
    have X63 := Ext.trans X48 hx54
    have X64 := Ext.trans X49 hx54
    have X65 := Ext.trans X51 hx54
    have hb66 := hb50.ext hx54
    have X67 := Ext.refl H53
    refine AL.w0 (.inl rfl) (WV.st rfl rfl va30 rfl hb56 (Nat.le_of_ble_eq_true rfl) (one_cons rfl (one_cons (sl_one1 (hr45.ext X65).isSl) (one_cons (sl_one1 (hr46.ext X65).isSl) one_nil)))) ?_
    rintro _ H68 ⟨hx69, hb70⟩
    have X71 := Ext.thru X62 hx69 (fun z_ hz_ => by rw [hz_]; exact o57)
    have X72 := Ext.thru X63 hx69 (fun z_ hz_ => by rw [hz_]; exact o58)
    have X73 := Ext.thru X64 hx69 (fun z_ hz_ => by rw [hz_]; exact o59)
    have X74 := Ext.thru X65 hx69 (fun z_ hz_ => by rw [hz_]; exact o60)
    have hb76 := hb66.but hx69 ne61
    have hb77 : At W H68 b52 ⟨30, [.int .i64 n, u39, v40], 3⟩ := hb70
    refine AL.nx ?_
    refine AW.rs ?_
    refine AL.val rfl (.inl rfl) (HV.lda (cs := [.int .i64 n, u39, v40]) rfl va30 (at_cells hb77 rfl)) ?_
    refine AL.w rfl (.inl rfl) (WV.call fn7 rfl (implTX_ok n (hr45.ext X74) (hr46.ext X74))) ?_
    rintro _ H78 ⟨rfl, hx79⟩
    have X80 := Ext.trans X71 hx79
    have X81 := Ext.trans X72 hx79
    have X82 := Ext.trans X73 hx79
    have X83 := Ext.trans X74 hx79
    have hb84 := hb76.ext hx79
    have hb85 := hb77.ext hx79
    refine AL.val rfl (.inl rfl) (HV.as rfl) ?_
    refine AL.nx ?_
    refine AW.seq ?_
    refine AW.rs ?_
    refine AL.val rfl (.inl rfl) (HV.mv rfl) ?_
    refine AL.val rfl (.inl rfl) (HV.mv rfl) ?_
    refine AL.val rfl (.inl rfl) (HV.nes rfl rfl) ?_
    refine AL.nx ?_
    refine AW.cond rfl (fun c86 => ?_) (fun c86 => ?_)
    · -- then
      refine AW.rs ?_
      refine AL.val rfl (.inl rfl) (HV.as rfl) ?_
      refine AL.nx ?_
      refine AW.ret ?_
      refine ret_and ?_
      refine post_one rfl rfl ?_ (.inr rfl)
      exact absurd c86 (by simp)
    · -- else
      refine AW.skip ?_
      refine nrm_and ?_
      refine AW.seq ?_
      refine AW.seq ?_
      refine AW.draw' [0, 0, 2, 7, 15] mixed (by rfl) ?_
      refine Dr.read 0 _ 22 _ rfl rfl rfl rfl rfl (RV.of (by intro _ _ h; cases h) (.inl rfl) (fun _ xd => HV.lda (cs := [.int .i64 n, u39, v40]) rfl va30 (fun j u hu => rdc_ext xd ((at_cells hb85 rfl) j u hu)))) ?_
      refine Dr.read 1 _ 23 _ rfl rfl rfl rfl rfl (RV.of (by intro _ _ h; cases h) (.inl rfl) (fun _ xd => HV.lda (cs := [.int .i64 n, vs, v]) rfl va25 (fun j u hu => rdc_ext xd ((at_cells hb84 rfl) j u hu)))) ?_
      refine Dr.eff 2 _ _ rfl (by intro d h; cases h; exact ⟨rfl, rfl⟩) rfl rfl rfl (EC.of (by intro _ _ h; cases h) (.inl rfl) (WV.call fn6 rfl (toTable_ok n (hs.ext X80) (hr.ext X80) (he16 (by omega)).1 (he16 (by omega)).2))) (fun v H' h => .inl (h.2)) ?_
      rintro _ H89 ⟨⟨u87, v88, rfl, ho91, ho92⟩, hx90⟩
      have X95 := Ext.trans X80 hx90
      have X96 := Ext.trans X81 hx90
      have X97 := Ext.trans X82 hx90
      have X98 := Ext.trans X83 hx90
      have hb99 := hb84.ext hx90
      have hb100 := hb85.ext hx90
      have X101 := Ext.refl H89
      have hr93 := ho91.rd
      have hr94 := ho92.rd.le (le_P (Le.refl _) (le_OR (Le.refl _)))
      refine Dr.eff 3 _ _ rfl (by intro d h; cases h; exact ⟨rfl, rfl⟩) rfl rfl rfl (EC.of (by intro _ _ h; cases h) (.inl rfl) (WV.call fn8 rfl (eqTable_ok n n (hr45.ext X98) (hr46.ext X98) hr93 hr94))) (fun v H' h => .inl (h.2)) ?_
      rintro _ H102 ⟨rfl, hx103⟩
      have X104 := Ext.trans X95 hx103
      have X105 := Ext.trans X96 hx103
      have X106 := Ext.trans X97 hx103
      have X107 := Ext.trans X98 hx103
      have X108 := Ext.trans X101 hx103
      have hb109 := hb99.ext hx103
      have hb110 := hb100.ext hx103
      refine Dr.read 4 _ 26 _ rfl rfl rfl rfl rfl (RV.of (by intro _ _ h; cases h) (.inl rfl) (fun _ xd => HV.not rfl)) ?_
      refine Dr.fin rfl ?_
      refine nrm_and ?_
      refine AW.ifn rfl (fun c111 => ?_) (fun c111 => ?_)
      · -- then
        refine AW.rs ?_
        refine AL.val rfl (.inl rfl) (HV.as rfl) ?_
        refine AL.nx ?_
        refine AW.ret ?_
        refine ret_and ?_
        refine post_one rfl rfl ?_ (.inr rfl)
        exact absurd c111 (by simp)
      · -- else
        refine AW.skip ?_
        refine nrm_and ?_
        refine AW.rs ?_
        refine AL.val rfl (.inl rfl) (HV.as rfl) ?_
        refine AL.nx ?_
        refine AW.ret ?_
        refine post_one rfl rfl ?_ (.inr rfl)
        exact ⟨rfl, X104⟩
end Go.Proofs.YtfjihanfiliniaaDoor.VC
