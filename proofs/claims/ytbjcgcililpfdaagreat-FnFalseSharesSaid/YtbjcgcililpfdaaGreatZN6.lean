/- Walks. -/
import Derived.Test.YtbjcgcililpfdaaGreatZN5
set_option linter.unusedVariables false
set_option linter.unusedSimpArgs false
namespace Go.Proofs.YtbjcgcililpfdaaGreat.VC
open Go Go.RowKit
variable {W : World} {H : Hp}

open VI (throughM stripM cutTo)
/-! ### Choices of shares -/
theorem el_iff {p : Int} {l : List Int} : elems p l ↔ ∀ x ∈ l, 0 ≤ x ∧ x ≤ p - 1 := by
  constructor
  · intro h x hx
    obtain ⟨j, hj, rfl⟩ := List.getElem_of_mem hx
    have := h j hj
    simpa [hj] using this
  · intro h j hj
    have := h l[j] (List.getElem_mem hj)
    simpa [hj] using this
theorem vS_sub {p : Int} {l m : List (Int × Int)} (h : vS p l) (hs : m.Sublist l) : vS p m := by
  obtain ⟨h1, h2, h3, h4⟩ := h
  have r := ris_iff.1 h4
  have hm := hs.map Prod.fst
  refine ⟨h1, el_iff.2 fun x hx => el_iff.1 h2 x ((hs.map Prod.snd).subset hx), ?_, ris_iff.2 ⟨r.1.sublist hm, fun x hx => r.2 x (hm.subset hx)⟩⟩
  have := hm.length_le
  omega
theorem cut_in {p : Int} {l : List Int} (h : elems p l) : ∀ n, elems p (cutTo l n)
  | 0 => fun q hq => absurd hq (Nat.not_lt_zero _)
  | n + 1 => by
    unfold cutTo
    split
    · exact cut_in h n
    · exact el_iff.2 fun x hx => el_iff.1 h x (List.mem_of_mem_take hx)
def thrC (p : Int) (l : List (Int × Int)) : List Int := throughM p (l.map Prod.fst) (l.map Prod.snd)
theorem thrC_in {p : Int} (hp : 2 ≤ p) (l : List (Int × Int)) : elems p (thrC p l) := by
  unfold thrC throughM
  exact cut_in (thO_in hp _ _ _) _
theorem thrC_len (p : Int) (l : List (Int × Int)) : (thrC p l).length ≤ l.length := by
  have := VI.through_len2 p (l.map Prod.fst) (l.map Prod.snd)
  rwa [List.length_map] at this
def nearC (p : Int) (l : List (Int × Int)) (ag : Int) (c : List Int) : Prop := ag ≤ (l.length : Int) - ((missL p l c).length : Int)
noncomputable instance (p : Int) (l : List (Int × Int)) (ag : Int) (c : List Int) : Decidable (nearC p l ag c) := Classical.propDecidable _
noncomputable def tryC (p : Int) (l : List (Int × Int)) (ag : Int) (ch : List (Int × Int)) (out : List (List Int)) : List (List Int) := if nearC p l ag (thrC p ch) then insC (thrC p ch) out else out
theorem insC_len (c : List Int) : ∀ out : List (List Int), (insC c out).length ≤ out.length + 1
  | [] => Nat.le_refl _
  | x :: t => by
    have := insC_len c t
    unfold insC
    split
    · simp only [List.length_cons]; omega
    · split <;> simp
theorem tryC_len (p : Int) (l : List (Int × Int)) (ag : Int) (ch : List (Int × Int)) (out : List (List Int)) : (tryC p l ag ch out).length ≤ out.length + 1 := by
  unfold tryC
  split
  · exact insC_len _ _
  · omega
/-- What a search does with every choice. -/
def wkL {σ ο : Type} (T : List σ → ο → ο) (m : Nat) : List σ → List σ → ο → ο
  | [], _, o => o
  | s :: t, ch, o => wkL T m t ch (if (ch ++ [s]).length = m then T (ch ++ [s]) o else wkL T m t (ch ++ [s]) o)
def wk {σ ο : Type} (T : List σ → ο → ο) (m : Nat) (t ch : List σ) (o : ο) : ο := if ch.length = m then T ch o else wkL T m t ch o
theorem wkL_at {σ ο : Type} {T : List σ → ο → ο} {m : Nat} {l ch : List σ} {o : ο} {i : Nat} {s : σ} (h : l[i]? = some s) : wkL T m (l.drop i) ch o = wkL T m (l.drop (i + 1)) ch (wk T m (l.drop (i + 1)) (ch ++ [s]) o) := by
  obtain ⟨hi, rfl⟩ := List.getElem?_eq_some_iff.1 h
  rw [List.drop_eq_getElem_cons hi]
  rfl
theorem wkL_len {σ : Type} {T : List σ → List (List Int) → List (List Int)} (hT : ∀ ch o, (T ch o).length ≤ o.length + 1) {m : Nat} : ∀ (t ch : List σ) (o : List (List Int)), (wkL T m t ch o).length + 1 ≤ o.length + 2 ^ t.length
  | [], ch, o => Nat.le_refl _
  | s :: t, ch, o => by
    unfold wkL
    have h1 := wkL_len hT (m := m) t ch (if (ch ++ [s]).length = m then T (ch ++ [s]) o else wkL T m t (ch ++ [s]) o)
    have h2 : (if (ch ++ [s]).length = m then T (ch ++ [s]) o else wkL T m t (ch ++ [s]) o).length ≤ o.length + 2 ^ t.length := by
      have := Nat.one_le_two_pow (n := t.length)
      split
      · have := hT (ch ++ [s]) o; omega
      · have := wkL_len hT (m := m) t (ch ++ [s]) o; omega
    rw [List.length_cons, Nat.pow_succ]
    omega
theorem wk_len {σ : Type} {T : List σ → List (List Int) → List (List Int)} (hT : ∀ ch o, (T ch o).length ≤ o.length + 1) {m : Nat} (t ch : List σ) (o : List (List Int)) : (wk T m t ch o).length ≤ o.length + 2 ^ t.length := by
  have := Nat.one_le_two_pow (n := t.length)
  unfold wk
  split
  · have := hT ch o; omega
  · have := wkL_len hT (m := m) t ch o; omega
theorem sub_next {σ : Type} {l ch : List σ} {f i : Nat} {s : σ} (h : (ch ++ l.drop f).Sublist l) (hf : f ≤ i) (hs : l[i]? = some s) : ((ch ++ [s]) ++ l.drop (i + 1)).Sublist l := by
  obtain ⟨hi, rfl⟩ := List.getElem?_eq_some_iff.1 hs
  have e : (ch ++ [l[i]]) ++ l.drop (i + 1) = ch ++ l.drop i := by rw [List.append_assoc, List.singleton_append, ← List.drop_eq_getElem_cons hi]
  rw [e]
  refine List.Sublist.trans (List.Sublist.append_left ?_ ch) h
  rw [show i = f + (i - f) by omega, ← List.drop_drop]
  exact List.drop_sublist _ _
set_option maxRecDepth 100000 in
theorem try_ok {bx : Nat} {vs : Value} {l : List (Int × Int)} (hrs : RdK (kP kI kI) W H (fun y => y ≠ bx) vs l) {vh : Value} {ch : List (Int × Int)} (hrh : RdK (kP kI kI) W H (fun y => y ≠ bx) vh ch) {vo : Value} {out : List (List Int)} {p dg ag : Int} (hro : RdK (kR kI) W H (fun y => y ≠ bx) vo out) (hbx : At W H bx ⟨79, [.int .i64 p, vs, .int .i64 dg, .int .i64 ag, vo], 5⟩) (hv : vS p l) (hvc : vS p ch) (hol : out.length + 1 ≤ 1000000) : ACalls Tryz.prog W 75 #[.pointer (some ⟨bx, 0, none⟩), vh] H (fun r H' => (∃ v', At W H' bx ⟨79, [.int .i64 p, vs, .int .i64 dg, .int .i64 ag, v'], 5⟩ ∧ RdK (kR kI) W H' (fun y => y ≠ bx) v' (tryC p l ag ch out)) ∧ But (fun x => x = bx) H H') := by
  refine ACalls.of (args := [.pointer (some ⟨bx, 0, none⟩), vh]) Tryz.func75 rfl rfl ?_
  have X0 := Ext.refl H
  have hm1 := hrh.max
  have hp := hv.1.1
  have hl10 := vS_len hv
  have hc10 := vS_len hvc
  have hml : (missL p l (throughM p (ch.map Prod.fst) (ch.map Prod.snd))).length ≤ l.length := missN_len _ _ _ _
  refine AW.seq ?_
  refine AW.draw' [0, 1, 3, 7, 0, 16, 0, 112, 255, 511] mixed (by rfl) ?_
  refine Dr.read 0 _ 5 _ rfl rfl rfl rfl rfl (RV.of (by intro _ _ h; cases h) (.inl rfl) (fun _ xd => HV.mv rfl)) ?_
  refine Dr.read 1 _ 6 _ rfl rfl rfl rfl rfl (RV.of (by intro _ _ h; cases h) (.inl rfl) (fun _ xd => HV.nc rfl)) ?_
  refine Dr.read 2 _ 7 _ rfl rfl rfl rfl rfl (RV.of (by intro _ _ h; cases h) (.inl rfl) (fun _ xd => HV.fa fl79_0 rfl)) ?_
  refine Dr.read 3 _ 8 _ rfl rfl rfl rfl rfl (RV.of (by intro _ _ h; cases h) (.inl rfl) (fun _ xd => HV.ld rfl va2 (rdc_ext xd (at_cell hbx rfl)))) ?_
  refine Dr.read 4 _ 9 _ rfl rfl rfl rfl rfl (RV.of (by intro _ _ h; cases h) (.inl rfl) (fun _ xd => HV.mv rfl)) ?_
  refine Dr.read 6 _ 11 _ rfl rfl rfl rfl rfl (RV.of (by intro _ _ h; cases h) (.inl rfl) (fun _ xd => HV.mv rfl)) ?_
  refine Dr.eff 5 _ _ rfl (by intro d h; cases h; exact ⟨rfl, rfl⟩) rfl rfl rfl (EC.of (by intro _ _ h; cases h) (.inl rfl) (WV.call fn57 rfl (places_ok hrh (by omega)))) (fun v H' h => .inl (h.1)) ?_
  rintro v2 H3 ⟨hx4, ho5⟩
  have X7 := Ext.trans X0 hx4
  have hb8 := hbx.ext hx4
  have X9 := Ext.refl H3
  have hr6 : RdK kI W H3 _ v2 (ch.map Prod.fst) := ho5.rd
  refine Dr.eff 7 _ _ rfl (by intro d h; cases h; exact ⟨rfl, rfl⟩) rfl rfl rfl (EC.of (by intro _ _ h; cases h) (.inl rfl) (WV.call fn59 rfl (values_ok (hrh.ext X7) (by omega)))) (fun v H' h => .inl (h.1)) ?_
  rintro v10 H11 ⟨hx12, ho13⟩
  have X15 := Ext.trans X7 hx12
  have X16 := Ext.trans X9 hx12
  have hb17 := hb8.ext hx12
  have X18 := Ext.refl H11
  have hr14 : RdK kI W H11 _ v10 (ch.map Prod.snd) := ho13.rd
  have y19 := hb17.lt
  have o20 := X15.bd
  have o21 := X16.bd
  have o22 := X18.bd
  refine Dr.eff 8 _ _ rfl (by intro d h; cases h; exact ⟨rfl, rfl⟩) rfl rfl rfl (EC.of (by intro _ _ h; cases h) (.inl rfl) (WV.call fn90 rfl (specThr_ok (hr6.ext X16) hr14 (isPr_of hv.1) (el_iff.2 fun x hx => by have q := (ris_iff.1 hvc.2.2.2).2 x hx; omega) hvc.2.1 ⟨by simp, by simp; omega⟩))) (fun v H' h => .inl (h.1)) ?_
  rintro v23 H24 ⟨hx25, ho26⟩
  have X27 := Ext.trans X15 hx25
  have X28 := Ext.trans X16 hx25
  have X29 := Ext.trans X18 hx25
  have hb30 := hb17.ext hx25
  refine Dr.read 9 _ 4 _ rfl rfl rfl rfl rfl (RV.of (by intro _ _ h; cases h) (.inl rfl) (fun _ xd => HV.as rfl)) ?_
  refine Dr.fin rfl ?_
  refine nrm_and ?_
  refine AW.seq ?_
  refine AW.draw' [0, 1, 3, 7, 15, 0, 32, 96, 224, 0, 512, 1536, 3584, 0, 16352, 32736, 65535, 0, 131072, 393216, 917504, 2097151] mixed (by rfl) ?_
  refine Dr.read 0 _ 14 _ rfl rfl rfl rfl rfl (RV.of (by intro _ _ h; cases h) (.inl rfl) (fun _ xd => HV.mv rfl)) ?_
  refine Dr.read 1 _ 15 _ rfl rfl rfl rfl rfl (RV.of (by intro _ _ h; cases h) (.inl rfl) (fun _ xd => HV.nc rfl)) ?_
  refine Dr.read 2 _ 16 _ rfl rfl rfl rfl rfl (RV.of (by intro _ _ h; cases h) (.inl rfl) (fun _ xd => HV.fa fl79_1 rfl)) ?_
  refine Dr.read 3 _ 17 _ rfl rfl rfl rfl rfl (RV.of (by intro _ _ h; cases h) (.inl rfl) (fun _ xd => HV.ld rfl va28 (rdc_ext xd (at_cell_add (j := 1) hb30 rfl)))) ?_
  refine Dr.read 4 _ 18 _ rfl rfl rfl rfl rfl (RV.of (by intro _ _ h; cases h) (.inl rfl) (fun _ xd => HV.len Tryz.underlying28 rfl hrs.isSl)) ?_
  refine Dr.read 5 _ 19 _ rfl rfl rfl rfl rfl (RV.of (by intro _ _ h; cases h) (.inl rfl) (fun _ xd => HV.mv rfl)) ?_
  refine Dr.read 6 _ 20 _ rfl rfl rfl rfl rfl (RV.of (by intro _ _ h; cases h) (.inl rfl) (fun _ xd => HV.nc rfl)) ?_
  refine Dr.read 7 _ 21 _ rfl rfl rfl rfl rfl (RV.of (by intro _ _ h; cases h) (.inl rfl) (fun _ xd => HV.fa fl79_0 rfl)) ?_
  refine Dr.read 8 _ 22 _ rfl rfl rfl rfl rfl (RV.of (by intro _ _ h; cases h) (.inl rfl) (fun _ xd => HV.ld rfl va2 (rdc_ext xd (at_cell hb30 rfl)))) ?_
  refine Dr.read 9 _ 23 _ rfl rfl rfl rfl rfl (RV.of (by intro _ _ h; cases h) (.inl rfl) (fun _ xd => HV.mv rfl)) ?_
  refine Dr.read 10 _ 24 _ rfl rfl rfl rfl rfl (RV.of (by intro _ _ h; cases h) (.inl rfl) (fun _ xd => HV.nc rfl)) ?_
  refine Dr.read 11 _ 25 _ rfl rfl rfl rfl rfl (RV.of (by intro _ _ h; cases h) (.inl rfl) (fun _ xd => HV.fa fl79_1 rfl)) ?_
  refine Dr.read 12 _ 26 _ rfl rfl rfl rfl rfl (RV.of (by intro _ _ h; cases h) (.inl rfl) (fun _ xd => HV.ld rfl va28 (rdc_ext xd (at_cell_add (j := 1) hb30 rfl)))) ?_
  refine Dr.read 13 _ 27 _ rfl rfl rfl rfl rfl (RV.of (by intro _ _ h; cases h) (.inl rfl) (fun _ xd => HV.mv rfl)) ?_
  refine Dr.read 17 _ 31 _ rfl rfl rfl rfl rfl (RV.of (by intro _ _ h; cases h) (.inl rfl) (fun _ xd => HV.mv rfl)) ?_
  refine Dr.read 18 _ 32 _ rfl rfl rfl rfl rfl (RV.of (by intro _ _ h; cases h) (.inl rfl) (fun _ xd => HV.nc rfl)) ?_
  refine Dr.read 19 _ 33 _ rfl rfl rfl rfl rfl (RV.of (by intro _ _ h; cases h) (.inl rfl) (fun _ xd => HV.fa fl79_3 rfl)) ?_
  refine Dr.read 20 _ 34 _ rfl rfl rfl rfl rfl (RV.of (by intro _ _ h; cases h) (.inl rfl) (fun _ xd => HV.ld rfl va2 (rdc_ext xd (at_cell_add (j := 3) hb30 rfl)))) ?_
  have X32 := Ext.refl H24
  have y33 := hb30.lt
  have o34 := X27.bd
  have o35 := X28.bd
  have o36 := X29.bd
  have o37 := X32.bd
  have a38 := ho26.ltb
  refine Dr.eff 14 _ _ rfl (by intro d h; cases h; exact ⟨rfl, rfl⟩) rfl rfl rfl (EC.of (by intro _ _ h; cases h) (.inl rfl) (WV.call fn34 rfl (misses_ok (hrs.ext X27) ho26.rd hv (thrC_in hp.1 ch)))) (fun v H' h => .inl (h.1)) ?_
  rintro v39 H40 ⟨hx41, ho42⟩
  have X43 := Ext.trans X27 hx41
  have X44 := Ext.trans X28 hx41
  have X45 := Ext.trans X29 hx41
  have X46 := Ext.trans X32 hx41
  have ho47 := ho26.ext hx41
  have hb48 := hb30.ext hx41
  refine Dr.read 15 _ 29 _ rfl rfl rfl rfl rfl (RV.of (by intro _ _ h; cases h) (.inl rfl) (fun _ xd => HV.len Tryz.underlying25 rfl ho42.rd.isSl)) ?_
  refine Dr.read 16 _ 30 _ rfl rfl rfl rfl rfl (RV.of (by intro _ _ h; cases h) (.inl rfl) (fun _ xd => HV.sub rfl rfl (by omega))) ?_
  refine Dr.read 21 _ 35 _ rfl rfl rfl rfl rfl (RV.of (by intro _ _ h; cases h) (.inl rfl) (fun _ xd => HV.gei rfl rfl)) ?_
  refine Dr.fin rfl ?_
  refine nrm_and ?_
  refine AW.ifd rfl (fun c50 => ?_) (fun c50 => ?_)
  · -- then
    refine AW.reg ?_
    refine AL.val rfl (.inl rfl) (HV.mv rfl) ?_
    refine AL.val rfl (.inl rfl) (HV.mv rfl) ?_
    have hq56 := RdK.okk (ok' := (fun y => y ≠ bx)) ho47.rd (fun y hy _ (e : y = bx) => by have h1 : H11.bd ≤ y := hy; have h2 := o20; have h3 := hbx.lt; omega)
    refine AL.w rfl (.inl rfl) (WV.call fn91 rfl (put5_ok hrs.isSl hq56 (hro.ext X43) hb48 (by omega))) ?_
    rintro _ H51 ⟨⟨v52, hb53, hr54⟩, hx55⟩
    refine AL.nil ?_
    refine post_none rfl ?_ (.inl rfl)
    have hn : nearC p l ag (thrC p ch) := (by unfold nearC thrC; omega); exact ⟨⟨_, hb53, by unfold tryC; rw [if_pos hn]; exact hr54⟩, (But.trans (Ext.but X43 _) hx55)⟩
  · -- else
    refine AW.skip ?_
    refine post_none rfl ?_ (.inl rfl)
    have hn : ¬ nearC p l ag (thrC p ch) := (by unfold nearC thrC; omega); exact ⟨⟨_, hb48, by unfold tryC; rw [if_neg hn]; exact (hro.ext X43)⟩, Ext.but X43 _⟩

set_option maxRecDepth 100000 in
theorem walk5_of {N : Nat} (ih : ∀ {W : World} {H : Hp} {bx : Nat} {vs : Value} {l : List (Int × Int)} (hrs : RdK (kP kI kI) W H (fun y => y ≠ bx) vs l) {vh : Value} {ch : List (Int × Int)} (hrh : RdK (kP kI kI) W H (fun y => y ≠ bx) vh ch) {vo : Value} {out : List (List Int)} {p dg ag : Int} (hro : RdK (kR kI) W H (fun y => y ≠ bx) vo out) (hbx : At W H bx ⟨79, [.int .i64 p, vs, .int .i64 dg, .int .i64 ag, vo], 5⟩) (hv : vS p l) {f : Nat} (hch : (ch ++ l.drop f).Sublist l) (hf : f ≤ l.length) (hd : 0 ≤ dg ∧ dg ≤ 6) (hol : out.length + 2 ^ (l.length - f) ≤ 1000000), l.length - f < N → ACalls Tryz.prog W 60 #[.pointer (some ⟨bx, 0, none⟩), vh, .int .i64 (f : Int)] H (fun r H' => (∃ v', At W H' bx ⟨79, [.int .i64 p, vs, .int .i64 dg, .int .i64 ag, v'], 5⟩ ∧ RdK (kR kI) W H' (fun y => y ≠ bx) v' (wk (tryC p l ag) (dg + 1).toNat (l.drop f) ch out)) ∧ But (fun x => x = bx) H H')) {bx : Nat} {vs : Value} {l : List (Int × Int)} (hrs : RdK (kP kI kI) W H (fun y => y ≠ bx) vs l) {vh : Value} {ch : List (Int × Int)} (hrh : RdK (kP kI kI) W H (fun y => y ≠ bx) vh ch) {vo : Value} {out : List (List Int)} {p dg ag : Int} (hro : RdK (kR kI) W H (fun y => y ≠ bx) vo out) (hbx : At W H bx ⟨79, [.int .i64 p, vs, .int .i64 dg, .int .i64 ag, vo], 5⟩) (hv : vS p l) {f : Nat} (hch : (ch ++ l.drop f).Sublist l) (hf : f ≤ l.length) (hd : 0 ≤ dg ∧ dg ≤ 6) (hol : out.length + 2 ^ (l.length - f) ≤ 1000000) (hN : l.length - f = N) : ACalls Tryz.prog W 60 #[.pointer (some ⟨bx, 0, none⟩), vh, .int .i64 (f : Int)] H (fun r H' => (∃ v', At W H' bx ⟨79, [.int .i64 p, vs, .int .i64 dg, .int .i64 ag, v'], 5⟩ ∧ RdK (kR kI) W H' (fun y => y ≠ bx) v' (wk (tryC p l ag) (dg + 1).toNat (l.drop f) ch out)) ∧ But (fun x => x = bx) H H') := by
  refine ACalls.of (args := [.pointer (some ⟨bx, 0, none⟩), vh, .int .i64 (f : Int)]) Tryz.func60 rfl rfl ?_
  have X0 := Ext.refl H
  have hp := hv.1.1
  have hl10 := vS_len hv
  have hvc := vS_sub hv (List.Sublist.trans (List.sublist_append_left ch (l.drop f)) hch)
  have hc10 := vS_len hvc
  have hbl := hbx.lt
  have hrs0 := hrs.okk (ok' := fun y => y ≠ bx ∧ y < H.bd) (fun y h hl => ⟨h, hl⟩)
  have hrh0 := hrh.okk (ok' := fun y => y ≠ bx ∧ y < H.bd) (fun y h hl => ⟨h, hl⟩)
  have BT0 := But.refl (fun x => x = bx) H
  refine AW.seq ?_
  refine AW.rs ?_
  refine AL.val rfl (.inl rfl) (HV.mv rfl) ?_
  refine AL.val rfl (.inl rfl) (HV.len Tryz.underlying28 rfl hrh0.isSl) ?_
  refine AL.val rfl (.inl rfl) (HV.mv rfl) ?_
  refine AL.val rfl (.inl rfl) (HV.nc rfl) ?_
  refine AL.val rfl (.inl rfl) (HV.fa fl79_2 rfl) ?_
  refine AL.val rfl (.inl rfl) (HV.ld rfl va2 (at_cell_add (j := 2) hbx rfl)) ?_
  refine AL.val rfl (.inl rfl) (HV.add rfl rfl (by omega)) ?_
  refine AL.val rfl (.inl rfl) (HV.eqi rfl rfl) ?_
  refine AL.nx ?_
  refine AW.ifd rfl (fun c1 => ?_) (fun c1 => ?_)
  · -- then
    refine AW.rs ?_
    refine AL.val rfl (.inl rfl) (HV.mv rfl) ?_
    refine AL.val rfl (.inl rfl) (HV.mv rfl) ?_
    refine AL.w rfl (.inl rfl) (WV.call fn75 rfl (try_ok (hrs0.okk (fun _ h _ => h.1)) (hrh0.okk (fun _ h _ => h.1)) hro hbx hv hvc (by have := Nat.one_le_two_pow (n := l.length - f); omega))) ?_
    rintro _ H2 ⟨⟨v3, hb4, hr5⟩, hx6⟩
    refine AL.nx ?_
    refine AW.ret ?_
    refine ret_and ?_
    refine post_none rfl ?_ (.inr rfl)
    exact ⟨⟨_, hb4, by unfold wk; rw [if_pos (by omega)]; exact hr5⟩, (But.trans BT0 hx6)⟩
  · -- else
    refine AW.skip ?_
    refine nrm_and ?_
    refine AW.rs ?_
    refine AL.val rfl (.inl rfl) (HV.mv rfl) ?_
    refine AL.val rfl (.inl rfl) (HV.as rfl) ?_
    refine AL.nx ?_
    refine AW.block ?_
    refine AW.loop (σ := Nat × Value × List (List Int)) (fun ⟨i, vv, oi⟩ => [(0, .pointer (some ⟨bx, 0, none⟩)), (1, vh), (6, .int .i64 (i : Int))]) (fun ⟨i, vv, oi⟩ H' => But (fun x => x = bx) H H' ∧ RdK (kP kI kI) W H' (fun y => y ≠ bx ∧ y < H.bd) vs l ∧ RdK (kP kI kI) W H' (fun y => y ≠ bx ∧ y < H.bd) vh ch ∧ f ≤ i ∧ i ≤ l.length ∧ oi.length + 2 ^ (l.length - i) ≤ 1000000 ∧ wkL (tryC p l ag) (dg + 1).toNat (l.drop f) ch out = wkL (tryC p l ag) (dg + 1).toNat (l.drop i) ch oi ∧ At W H' bx ⟨79, [.int .i64 p, vs, .int .i64 dg, .int .i64 ag, vv], 5⟩ ∧ RdK (kR kI) W H' (fun y => y ≠ bx) vv oi ∧ True) (fun ⟨i, vv, oi⟩ => l.length - i) (f, vo, out) ⟨BT0, hrs0, hrh0, Nat.le_refl _, hf, hol, rfl, hbx, hro, trivial⟩ ⟨rfl, rfl, rfl, trivial⟩ ?_
    rintro ⟨i, vv, oi⟩ H7 ⟨B8, ho9, ho10, hfi, hi, hoi, hwk, hbL, hrL, _⟩
    refine AW.seq ?_
    refine AW.rs ?_
    have X11 := Ext.refl H7
    have hHL : H.bd ≤ H7.bd := B8.bd
    refine AL.val rfl (.inl rfl) (HV.mv rfl) ?_
    refine AL.val rfl (.inl rfl) (HV.mv rfl) ?_
    refine AL.val rfl (.inl rfl) (HV.nc rfl) ?_
    refine AL.val rfl (.inl rfl) (HV.fa fl79_1 rfl) ?_
    refine AL.val rfl (.inl rfl) (HV.ld rfl va28 (at_cell_add (j := 1) hbL rfl)) ?_
    refine AL.val rfl (.inl rfl) (HV.len Tryz.underlying28 rfl ho9.isSl) ?_
    refine AL.val rfl (.inl rfl) (HV.lti rfl rfl) ?_
    refine AL.nx ?_
    refine AW.ifd rfl (fun c12 => ?_) (fun c12 => ?_)
    · -- then
      refine AW.skip ?_
      refine nrm_and ?_
      refine AW.seq ?_
      refine AW.block ?_
      refine AW.draw' [0, 0, 0, 6, 0, 16, 48, 112, 0, 496, 1008, 2032, 4094, 0, 8192, 32767] mixed (by rfl) ?_
      refine Dr.read 0 _ 28 _ rfl rfl rfl rfl rfl (RV.of (by intro _ _ h; cases h) (.inl rfl) (fun _ xd => HV.mv rfl)) ?_
      refine Dr.read 2 _ 30 _ rfl rfl rfl rfl rfl (RV.of (by intro _ _ h; cases h) (.inl rfl) (fun _ xd => HV.mv rfl)) ?_
      refine Dr.read 4 _ 32 _ rfl rfl rfl rfl rfl (RV.of (by intro _ _ h; cases h) (.inl rfl) (fun _ xd => HV.mv rfl)) ?_
      refine Dr.read 5 _ 33 _ rfl rfl rfl rfl rfl (RV.of (by intro _ _ h; cases h) (.inl rfl) (fun _ xd => HV.nc rfl)) ?_
      refine Dr.read 6 _ 34 _ rfl rfl rfl rfl rfl (RV.of (by intro _ _ h; cases h) (.inl rfl) (fun _ xd => HV.fa fl79_1 rfl)) ?_
      refine Dr.read 7 _ 35 _ rfl rfl rfl rfl rfl (RV.of (by intro _ _ h; cases h) (.inl rfl) (fun _ xd => HV.ld rfl va28 (rdc_ext xd (at_cell_add (j := 1) hbL rfl)))) ?_
      refine Dr.read 8 _ 36 _ rfl rfl rfl rfl rfl (RV.of (by intro _ _ h; cases h) (.inl rfl) (fun _ xd => HV.mv rfl)) ?_
      obtain ⟨p13, z14, cs15, hz16, hK17, hC18, hP19⟩ := RdK.ix (q := (i : Int)) ho9 sl28 (by omega) (by omega)
      obtain ⟨cs20, cs21, rfl, hK22, hK23⟩ := hK17
      obtain rfl : cs20 = [.int .i64 z14.1] := hK22
      obtain rfl : cs21 = [.int .i64 z14.2] := hK23
      refine Dr.read 9 _ 37 _ rfl rfl rfl rfl rfl (RV.of (by intro _ _ h; cases h) (.inl rfl) (fun _ xd => hP19 rfl rfl)) ?_
      refine Dr.read 10 _ 38 _ rfl rfl rfl rfl rfl (RV.of (by intro _ _ h; cases h) (.inl rfl) (fun _ xd => HV.lda (cs := [.int .i64 z14.1, .int .i64 z14.2]) rfl va36 (fun j u hu => rdc_ext xd (hC18 j u hu)))) ?_
      refine Dr.read 13 _ 41 _ rfl rfl rfl rfl rfl (RV.of (by intro _ _ h; cases h) (.inl rfl) (fun _ xd => HV.mv rfl)) ?_
      refine Dr.read 14 _ 42 _ rfl rfl rfl rfl rfl (RV.of (by intro _ _ h; cases h) (.inl rfl) (fun _ xd => HV.add rfl rfl (by omega))) ?_
      have hq24 := X11.bd
      have hq32 := X11.bd
      refine Dr.eff2 1 11 _ _ _ _  rfl rfl  (by intro d h; cases h; exact ⟨rfl, rfl⟩) (by intro d h; cases h; exact ⟨rfl, rfl⟩) rfl rfl  rfl rfl rfl  (EC.of (by intro _ _ h; cases h) (.inl rfl) (WV.bsK (K := (kP kI kI)) (l := ([] : List (Int × Int))) (css := []) sl28 rfl rfl (by first | rfl | (simp [Instr.fill, Value.cells, kI, Kd.sc]; done) | (simp [Instr.fill, Value.cells, kI, Kd.sc, rng1, rng2, rng3, rng4, kP])) rfl segs_nil)) (EC.of (by intro _ _ h; cases h) (.inl rfl) (WV.bsK (K := (kP kI kI)) (l := ([((z14.1, z14.2) : (Int × Int))] : List (Int × Int))) (css := [[.int .i64 z14.1, .int .i64 z14.2]]) sl28 rfl rfl (by first | rfl | (simp [Instr.fill, Value.cells, kI, Kd.sc]; done) | (simp [Instr.fill, Value.cells, kI, Kd.sc, rng1, rng2, rng3, rng4, kP])) rfl (segs_cons ⟨[.int .i64 z14.1], [.int .i64 z14.2], rfl, rfl, rfl⟩ segs_nil))) (fun v H' h => .inl (h.1)) (fun v H' h => .inl (h.1)) ?_ ?_ 
      · -- 1 first
        have hq40 := X11.bd
        rintro v41 H42 ⟨hx43, ho44⟩
        have E45 := ho44.narrow (ok' := fun b => some b = v41.ownBlock) (kP_flat kI_flat kI_flat) (fun b q => q)
        have lb46 : ∀ b, some b = v41.ownBlock → H7.bd ≤ b := fun b q => Nat.le_trans hq40 (ho44.blk b q).1
        have B48 := But.trans B8 (Ext.but hx43 _)
        have X49 := Ext.trans X11 hx43
        have ho50 := ho9.ext hx43
        have ho51 := ho10.ext hx43
        have hb52 := hbL.ext hx43
        have X53 := Ext.refl H42
        have hq61 := X49.bd
        have X63 := Ext.refl H42
        have hq64 := X49.bd
        have lt71 := E45.ltb
        refine Dr.eff2 3 11 _ _ _ _  rfl rfl  (by intro d h; cases h; exact ⟨rfl, rfl⟩) (by intro d h; cases h; exact ⟨rfl, rfl⟩) rfl rfl  rfl rfl rfl  (EC.of (by intro _ _ h; cases h) (.inl rfl) (WV.apk sl28 rfl rfl E45 ho51 (by simp; omega) (by simp; omega) (fun y hy _ e => by have h1 := hy.2; have h2 := lb46 y e; have h3 := hHL; omega))) (EC.of (by intro _ _ h; cases h) (.inl rfl) (WV.bsK (K := (kP kI kI)) (l := ([((z14.1, z14.2) : (Int × Int))] : List (Int × Int))) (css := [[.int .i64 z14.1, .int .i64 z14.2]]) sl28 rfl rfl (by first | rfl | (simp [Instr.fill, Value.cells, kI, Kd.sc]; done) | (simp [Instr.fill, Value.cells, kI, Kd.sc, rng1, rng2, rng3, rng4, kP])) rfl (segs_cons ⟨[.int .i64 z14.1], [.int .i64 z14.2], rfl, rfl, rfl⟩ segs_nil))) ?_ (fun v H' h => .inl (h.1)) ?_ ?_ 
        · -- kept
          rintro v54 H55 ⟨hx56, ho57, hb58⟩
          have E59 := ho57.narrow (ok' := fun b => some b = v54.ownBlock) (kP_flat kI_flat kI_flat) (fun b q => q)
          have lb60 : ∀ b, some b = v54.ownBlock → H7.bd ≤ b := fun b q => (hb58 b q).elim (fun e => lb46 b e) (fun e => Nat.le_trans hq61 e)
          have X72 := Ext.thru X49 hx56 lb46
          have B73 := But.thru B48 hx56 (fun b hb => Nat.le_trans hHL (lb46 b hb))
          have ho74 := ho50.but hx56 (fun y hy _ e => by have h1 := hy.2; have h2 := lb46 y e; have h3 := hHL; omega) (fun y e => (E45.blk y e).2.2)
          have ho75 := ho51.but hx56 (fun y hy _ e => by have h1 := hy.2; have h2 := lb46 y e; have h3 := hHL; omega) (fun y e => (E45.blk y e).2.2)
          have hb76 := hb52.but hx56 (fun e => by have h2 := lb46 _ e; have h3 := hHL; omega)
          refine .inr (.inr ?_)
          exact (kept_cons (.inr ⟨_, _, _, rfl, rfl, rfl, (RV.of (by intro _ _ h; cases h) (.inl rfl) (fun _ xd => HV.add rfl rfl (by omega)))⟩) (kept_cons (.inr ⟨_, _, _, rfl, rfl, rfl, (RV.of (by intro _ _ h; cases h) (.inl rfl) (fun _ xd => HV.mv rfl))⟩) (kept_cons (.inr ⟨_, _, _, rfl, rfl, rfl, (RV.of (by intro _ _ h; cases h) (.inl rfl) (fun _ xd => HV.lda (cs := [.int .i64 z14.1, .int .i64 z14.2]) rfl va36 (fun j u hu => rdc_ext xd ((hC18.ext X72) j u hu))))⟩) (kept_cons (.inr ⟨_, _, _, rfl, rfl, rfl, (RV.of (by intro _ _ h; cases h) (.inl rfl) (fun _ xd => hP19 rfl rfl))⟩) (kept_cons (.inr ⟨_, _, _, rfl, rfl, rfl, (RV.of (by intro _ _ h; cases h) (.inl rfl) (fun _ xd => HV.mv rfl))⟩) (kept_cons (.inr ⟨_, _, _, rfl, rfl, rfl, (RV.of (by intro _ _ h; cases h) (.inl rfl) (fun _ xd => HV.ld rfl va28 (rdc_ext xd (at_cell_add (j := 1) hb76 rfl))))⟩) (kept_cons (.inr ⟨_, _, _, rfl, rfl, rfl, (RV.of (by intro _ _ h; cases h) (.inl rfl) (fun _ xd => HV.fa fl79_1 rfl))⟩) (kept_cons (.inr ⟨_, _, _, rfl, rfl, rfl, (RV.of (by intro _ _ h; cases h) (.inl rfl) (fun _ xd => HV.nc rfl))⟩) (kept_cons (.inr ⟨_, _, _, rfl, rfl, rfl, (RV.of (by intro _ _ h; cases h) (.inl rfl) (fun _ xd => HV.mv rfl))⟩) (kept_cons (.inl rfl) (kept_cons (.inr ⟨_, _, _, rfl, rfl, rfl, (RV.of (by intro _ _ h; cases h) (.inl rfl) (fun _ xd => HV.mv rfl))⟩) kept_nil)))))))))))
        · -- 3 first
          have X77 := Ext.refl H42
          have hq85 := X49.bd
          rintro v78 H79 ⟨hx80, ho81, hb82⟩
          have E83 := ho81.narrow (ok' := fun b => some b = v78.ownBlock) (kP_flat kI_flat kI_flat) (fun b q => q)
          have lb84 : ∀ b, some b = v78.ownBlock → H7.bd ≤ b := fun b q => (hb82 b q).elim (fun e => lb46 b e) (fun e => Nat.le_trans hq85 e)
          have X87 := Ext.thru X49 hx80 lb46
          have B88 := But.thru B48 hx80 (fun b hb => Nat.le_trans hHL (lb46 b hb))
          have ho89 := ho50.but hx80 (fun y hy _ e => by have h1 := hy.2; have h2 := lb46 y e; have h3 := hHL; omega) (fun y e => (E45.blk y e).2.2)
          have ho90 := ho51.but hx80 (fun y hy _ e => by have h1 := hy.2; have h2 := lb46 y e; have h3 := hHL; omega) (fun y e => (E45.blk y e).2.2)
          have hb91 := hb52.but hx80 (fun e => by have h2 := lb46 _ e; have h3 := hHL; omega)
          have X92 := Ext.refl H79
          have hq93 := X87.bd
          have lt100 := E83.ltb
          refine Dr.eff 11 _ _ rfl (by intro d h; cases h; exact ⟨rfl, rfl⟩) rfl rfl rfl (EC.of (by intro _ _ h; cases h) (.inl rfl) (WV.bsK (K := (kP kI kI)) (l := ([((z14.1, z14.2) : (Int × Int))] : List (Int × Int))) (css := [[.int .i64 z14.1, .int .i64 z14.2]]) sl28 rfl rfl (by first | rfl | (simp [Instr.fill, Value.cells, kI, Kd.sc]; done) | (simp [Instr.fill, Value.cells, kI, Kd.sc, rng1, rng2, rng3, rng4, kP])) rfl (segs_cons ⟨[.int .i64 z14.1], [.int .i64 z14.2], rfl, rfl, rfl⟩ segs_nil))) (fun v H' h => .inl (h.1)) ?_
          rintro v94 H95 ⟨hx96, ho97⟩
          have E98 := ho97.narrow (ok' := fun b => some b = v94.ownBlock) (kP_flat kI_flat kI_flat) (fun b q => q)
          have lb99 : ∀ b, some b = v94.ownBlock → H7.bd ≤ b := fun b q => Nat.le_trans hq93 (ho97.blk b q).1
          have B101 := But.trans B88 (Ext.but hx96 _)
          have X102 := Ext.trans X87 hx96
          have X103 := Ext.trans X92 hx96
          have ho104 := ho89.ext hx96
          have ho105 := ho90.ext hx96
          have hb106 := hb91.ext hx96
          have E107 := E83.ext hx96
          have dis108 : ∀ b, some b = v94.ownBlock → some b = v78.ownBlock → False := fun b h1 h2 => by have q1 : H79.bd ≤ b := (ho97.blk b h1).1; have q2 := lt100 b h2; omega
          have X109 := Ext.refl H95
          have hq117 := X102.bd
          have lt118 := E98.ltb
          refine Dr.eff 12 _ _ rfl (by intro d h; cases h; exact ⟨rfl, rfl⟩) rfl rfl rfl (EC.of (by intro _ _ h; cases h) (.inl rfl) (WV.apk sl28 rfl rfl E107 E98.rd (by simp; omega) (by simp; omega) (fun y hy _ e => (fun b h1 h2 => dis108 b h2 h1) y e hy))) ?_ ?_
          · -- kept
            rintro v110 H111 ⟨hx112, ho113, hb114⟩
            have E115 := ho113.narrow (ok' := fun b => some b = v110.ownBlock) (kP_flat kI_flat kI_flat) (fun b q => q)
            have lb116 : ∀ b, some b = v110.ownBlock → H7.bd ≤ b := fun b q => (hb114 b q).elim (fun e => lb84 b e) (fun e => Nat.le_trans hq117 e)
            have X119 := Ext.thru X102 hx112 lb84
            have B120 := But.thru B101 hx112 (fun b hb => Nat.le_trans hHL (lb84 b hb))
            have ho121 := ho104.but hx112 (fun y hy _ e => by have h1 := hy.2; have h2 := lb84 y e; have h3 := hHL; omega) (fun y e => (E107.blk y e).2.2)
            have ho122 := ho105.but hx112 (fun y hy _ e => by have h1 := hy.2; have h2 := lb84 y e; have h3 := hHL; omega) (fun y e => (E107.blk y e).2.2)
            have hb123 := hb106.but hx112 (fun e => by have h2 := lb84 _ e; have h3 := hHL; omega)
            refine .inr (.inr ?_)
            exact (kept_cons (.inr ⟨_, _, _, rfl, rfl, rfl, (RV.of (by intro _ _ h; cases h) (.inl rfl) (fun _ xd => HV.add rfl rfl (by omega)))⟩) (kept_cons (.inr ⟨_, _, _, rfl, rfl, rfl, (RV.of (by intro _ _ h; cases h) (.inl rfl) (fun _ xd => HV.mv rfl))⟩) (kept_cons (.inl rfl) (kept_cons (.inl rfl) (kept_cons (.inl rfl) (kept_cons (.inl rfl) (kept_cons (.inl rfl) (kept_cons (.inl rfl) (kept_cons (.inl rfl) (kept_cons (.inl rfl) (kept_cons (.inr ⟨_, _, _, rfl, rfl, rfl, (RV.of (by intro _ _ h; cases h) (.inl rfl) (fun _ xd => HV.mv rfl))⟩) kept_nil)))))))))))
          rintro v110 H111 ⟨hx112, ho113, hb114⟩
          have E115 := ho113.narrow (ok' := fun b => some b = v110.ownBlock) (kP_flat kI_flat kI_flat) (fun b q => q)
          have lb116 : ∀ b, some b = v110.ownBlock → H7.bd ≤ b := fun b q => (hb114 b q).elim (fun e => lb84 b e) (fun e => Nat.le_trans hq117 e)
          have X124 := Ext.thru X102 hx112 lb84
          have B125 := But.thru B101 hx112 (fun b hb => Nat.le_trans hHL (lb84 b hb))
          have ho126 := ho104.but hx112 (fun y hy _ e => by have h1 := hy.2; have h2 := lb84 y e; have h3 := hHL; omega) (fun y e => (E107.blk y e).2.2)
          have ho127 := ho105.but hx112 (fun y hy _ e => by have h1 := hy.2; have h2 := lb84 y e; have h3 := hHL; omega) (fun y e => (E107.blk y e).2.2)
          have hb128 := hb106.but hx112 (fun e => by have h2 := lb84 _ e; have h3 := hHL; omega)
          have hq134 := RdK.okk (ok' := (fun y => y ≠ bx)) E115.rd (fun y hy _ (e : y = bx) => by have h1 := lb116 y hy; have h3 := hHL; omega)
          have hpw : 2 ^ (l.length - i) = 2 * 2 ^ (l.length - (i + 1)) := by rw [show l.length - i = (l.length - (i + 1)) + 1 by omega, Nat.pow_succ, Nat.mul_comm]
          refine Dr.eff 15 _ _ rfl (by intro d h; cases h; exact ⟨rfl, rfl⟩) rfl rfl rfl (EC.of (by intro _ _ h; cases h) (.inl rfl) (WV.call fn60 rfl (ih (f := i + 1) (ho126.okk (fun _ h _ => h.1)) hq134 (hrL.ext X124) hb128 hv (sub_next hch (by omega) (getq hz16 rfl)) (by omega) hd (by omega) (by omega)))) (fun v H' h => .inr (.inl rfl)) ?_
          rintro _ H129 ⟨⟨v130, hb131, hr132⟩, hx133⟩
          have B135 := But.trans B125 hx133
          have q137 := Nat.le_trans X124.bd hx133.bd
          have ho138 := ho126.but hx133 (fun _ h _ e => h.1 e) (fun z_ hz_ => by rw [hz_]; exact hb128.w)
          have ho139 := ho127.but hx133 (fun _ h _ e => h.1 e) (fun z_ hz_ => by rw [hz_]; exact hb128.w)
          refine Dr.fin rfl ?_
          refine nrm_blk (nrm_and ?_)
          refine AW.reg ?_
          refine AL.val rfl (.inl rfl) (HV.mv rfl) ?_
          refine AL.val rfl (.inl rfl) (HV.add rfl rfl (by omega)) ?_
          refine AL.val rfl (.inl rfl) (HV.as rfl) ?_
          refine AL.nil ?_
          refine nrm_and ?_
          exact ⟨(i + 1, v130, (wk (tryC p l ag) (dg + 1).toNat (l.drop (i + 1)) (ch ++ [z14]) oi)), ⟨B135, ho138, ho139, by omega, by omega, by have q := wk_len (tryC_len p l ag) (m := (dg + 1).toNat) (l.drop (i + 1)) (ch ++ [z14]) oi; have q2 : (l.drop (i + 1)).length = l.length - (i + 1) := List.length_drop; rw [q2] at q; omega, hwk.trans (wkL_at (getq hz16 rfl)), hb131, hr132, trivial⟩, by first | omega | (dsimp only; omega), ⟨rfl, rfl, rfl, trivial⟩⟩
        · -- 11 first
          have X140 := Ext.refl H42
          have hq141 := X49.bd
          have lt148 := E45.ltb
          rintro v142 H143 ⟨hx144, ho145⟩
          have E146 := ho145.narrow (ok' := fun b => some b = v142.ownBlock) (kP_flat kI_flat kI_flat) (fun b q => q)
          have lb147 : ∀ b, some b = v142.ownBlock → H7.bd ≤ b := fun b q => Nat.le_trans hq141 (ho145.blk b q).1
          have B149 := But.trans B48 (Ext.but hx144 _)
          have X150 := Ext.trans X49 hx144
          have X151 := Ext.trans X140 hx144
          have ho152 := ho50.ext hx144
          have ho153 := ho51.ext hx144
          have hb154 := hb52.ext hx144
          have E155 := E45.ext hx144
          have dis156 : ∀ b, some b = v142.ownBlock → some b = v41.ownBlock → False := fun b h1 h2 => by have q1 : H42.bd ≤ b := (ho145.blk b h1).1; have q2 := lt148 b h2; omega
          have X157 := Ext.refl H143
          have hq165 := X150.bd
          have lt166 := E146.ltb
          refine Dr.eff 3 _ _ rfl (by intro d h; cases h; exact ⟨rfl, rfl⟩) rfl rfl rfl (EC.of (by intro _ _ h; cases h) (.inl rfl) (WV.apk sl28 rfl rfl E155 ho153 (by simp; omega) (by simp; omega) (fun y hy _ e => by have h1 := hy.2; have h2 := lb46 y e; have h3 := hHL; omega))) ?_ ?_
          · -- kept
            rintro v158 H159 ⟨hx160, ho161, hb162⟩
            have E163 := ho161.narrow (ok' := fun b => some b = v158.ownBlock) (kP_flat kI_flat kI_flat) (fun b q => q)
            have lb164 : ∀ b, some b = v158.ownBlock → H7.bd ≤ b := fun b q => (hb162 b q).elim (fun e => lb46 b e) (fun e => Nat.le_trans hq165 e)
            have X167 := Ext.thru X150 hx160 lb46
            have B168 := But.thru B149 hx160 (fun b hb => Nat.le_trans hHL (lb46 b hb))
            have ho169 := ho152.but hx160 (fun y hy _ e => by have h1 := hy.2; have h2 := lb46 y e; have h3 := hHL; omega) (fun y e => (E155.blk y e).2.2)
            have ho170 := ho153.but hx160 (fun y hy _ e => by have h1 := hy.2; have h2 := lb46 y e; have h3 := hHL; omega) (fun y e => (E155.blk y e).2.2)
            have hb171 := hb154.but hx160 (fun e => by have h2 := lb46 _ e; have h3 := hHL; omega)
            have E172 := E146.but hx160 (fun y hy _ e => (fun b h1 h2 => dis156 b h2 h1) y e hy) (fun y e => (E155.blk y e).2.2)
            have dis173 : ∀ b, some b = v158.ownBlock → some b = v142.ownBlock → False := fun b h1 h2 => (hb162 b h1).elim (fun e => (fun b h1 h2 => dis156 b h2 h1) b e h2) (fun e => by have q2 := lt166 b h2; omega)
            refine .inr (.inr ?_)
            exact (kept_cons (.inr ⟨_, _, _, rfl, rfl, rfl, (RV.of (by intro _ _ h; cases h) (.inl rfl) (fun _ xd => HV.add rfl rfl (by omega)))⟩) (kept_cons (.inr ⟨_, _, _, rfl, rfl, rfl, (RV.of (by intro _ _ h; cases h) (.inl rfl) (fun _ xd => HV.mv rfl))⟩) (kept_cons (.inr ⟨_, _, _, rfl, rfl, rfl, (RV.of (by intro _ _ h; cases h) (.inl rfl) (fun _ xd => HV.lda (cs := [.int .i64 z14.1, .int .i64 z14.2]) rfl va36 (fun j u hu => rdc_ext xd ((hC18.ext X167) j u hu))))⟩) (kept_cons (.inr ⟨_, _, _, rfl, rfl, rfl, (RV.of (by intro _ _ h; cases h) (.inl rfl) (fun _ xd => hP19 rfl rfl))⟩) (kept_cons (.inr ⟨_, _, _, rfl, rfl, rfl, (RV.of (by intro _ _ h; cases h) (.inl rfl) (fun _ xd => HV.mv rfl))⟩) (kept_cons (.inr ⟨_, _, _, rfl, rfl, rfl, (RV.of (by intro _ _ h; cases h) (.inl rfl) (fun _ xd => HV.ld rfl va28 (rdc_ext xd (at_cell_add (j := 1) hb171 rfl))))⟩) (kept_cons (.inr ⟨_, _, _, rfl, rfl, rfl, (RV.of (by intro _ _ h; cases h) (.inl rfl) (fun _ xd => HV.fa fl79_1 rfl))⟩) (kept_cons (.inr ⟨_, _, _, rfl, rfl, rfl, (RV.of (by intro _ _ h; cases h) (.inl rfl) (fun _ xd => HV.nc rfl))⟩) (kept_cons (.inr ⟨_, _, _, rfl, rfl, rfl, (RV.of (by intro _ _ h; cases h) (.inl rfl) (fun _ xd => HV.mv rfl))⟩) (kept_cons (.inl rfl) (kept_cons (.inr ⟨_, _, _, rfl, rfl, rfl, (RV.of (by intro _ _ h; cases h) (.inl rfl) (fun _ xd => HV.mv rfl))⟩) kept_nil)))))))))))
          rintro v158 H159 ⟨hx160, ho161, hb162⟩
          have E163 := ho161.narrow (ok' := fun b => some b = v158.ownBlock) (kP_flat kI_flat kI_flat) (fun b q => q)
          have lb164 : ∀ b, some b = v158.ownBlock → H7.bd ≤ b := fun b q => (hb162 b q).elim (fun e => lb46 b e) (fun e => Nat.le_trans hq165 e)
          have X174 := Ext.thru X150 hx160 lb46
          have B175 := But.thru B149 hx160 (fun b hb => Nat.le_trans hHL (lb46 b hb))
          have ho176 := ho152.but hx160 (fun y hy _ e => by have h1 := hy.2; have h2 := lb46 y e; have h3 := hHL; omega) (fun y e => (E155.blk y e).2.2)
          have ho177 := ho153.but hx160 (fun y hy _ e => by have h1 := hy.2; have h2 := lb46 y e; have h3 := hHL; omega) (fun y e => (E155.blk y e).2.2)
          have hb178 := hb154.but hx160 (fun e => by have h2 := lb46 _ e; have h3 := hHL; omega)
          have E179 := E146.but hx160 (fun y hy _ e => (fun b h1 h2 => dis156 b h2 h1) y e hy) (fun y e => (E155.blk y e).2.2)
          have dis180 : ∀ b, some b = v158.ownBlock → some b = v142.ownBlock → False := fun b h1 h2 => (hb162 b h1).elim (fun e => (fun b h1 h2 => dis156 b h2 h1) b e h2) (fun e => by have q2 := lt166 b h2; omega)
          have X181 := Ext.refl H159
          have hq189 := X174.bd
          have lt190 := E179.ltb
          refine Dr.eff 12 _ _ rfl (by intro d h; cases h; exact ⟨rfl, rfl⟩) rfl rfl rfl (EC.of (by intro _ _ h; cases h) (.inl rfl) (WV.apk sl28 rfl rfl E163 E179.rd (by simp; omega) (by simp; omega) (fun y hy _ e => dis180 y e hy))) ?_ ?_
          · -- kept
            rintro v182 H183 ⟨hx184, ho185, hb186⟩
            have E187 := ho185.narrow (ok' := fun b => some b = v182.ownBlock) (kP_flat kI_flat kI_flat) (fun b q => q)
            have lb188 : ∀ b, some b = v182.ownBlock → H7.bd ≤ b := fun b q => (hb186 b q).elim (fun e => lb164 b e) (fun e => Nat.le_trans hq189 e)
            have X191 := Ext.thru X174 hx184 lb164
            have B192 := But.thru B175 hx184 (fun b hb => Nat.le_trans hHL (lb164 b hb))
            have ho193 := ho176.but hx184 (fun y hy _ e => by have h1 := hy.2; have h2 := lb164 y e; have h3 := hHL; omega) (fun y e => (E163.blk y e).2.2)
            have ho194 := ho177.but hx184 (fun y hy _ e => by have h1 := hy.2; have h2 := lb164 y e; have h3 := hHL; omega) (fun y e => (E163.blk y e).2.2)
            have hb195 := hb178.but hx184 (fun e => by have h2 := lb164 _ e; have h3 := hHL; omega)
            refine .inr (.inr ?_)
            exact (kept_cons (.inr ⟨_, _, _, rfl, rfl, rfl, (RV.of (by intro _ _ h; cases h) (.inl rfl) (fun _ xd => HV.add rfl rfl (by omega)))⟩) (kept_cons (.inr ⟨_, _, _, rfl, rfl, rfl, (RV.of (by intro _ _ h; cases h) (.inl rfl) (fun _ xd => HV.mv rfl))⟩) (kept_cons (.inl rfl) (kept_cons (.inl rfl) (kept_cons (.inl rfl) (kept_cons (.inl rfl) (kept_cons (.inl rfl) (kept_cons (.inl rfl) (kept_cons (.inl rfl) (kept_cons (.inl rfl) (kept_cons (.inr ⟨_, _, _, rfl, rfl, rfl, (RV.of (by intro _ _ h; cases h) (.inl rfl) (fun _ xd => HV.mv rfl))⟩) kept_nil)))))))))))
          rintro v182 H183 ⟨hx184, ho185, hb186⟩
          have E187 := ho185.narrow (ok' := fun b => some b = v182.ownBlock) (kP_flat kI_flat kI_flat) (fun b q => q)
          have lb188 : ∀ b, some b = v182.ownBlock → H7.bd ≤ b := fun b q => (hb186 b q).elim (fun e => lb164 b e) (fun e => Nat.le_trans hq189 e)
          have X196 := Ext.thru X174 hx184 lb164
          have B197 := But.thru B175 hx184 (fun b hb => Nat.le_trans hHL (lb164 b hb))
          have ho198 := ho176.but hx184 (fun y hy _ e => by have h1 := hy.2; have h2 := lb164 y e; have h3 := hHL; omega) (fun y e => (E163.blk y e).2.2)
          have ho199 := ho177.but hx184 (fun y hy _ e => by have h1 := hy.2; have h2 := lb164 y e; have h3 := hHL; omega) (fun y e => (E163.blk y e).2.2)
          have hb200 := hb178.but hx184 (fun e => by have h2 := lb164 _ e; have h3 := hHL; omega)
          have hq206 := RdK.okk (ok' := (fun y => y ≠ bx)) E187.rd (fun y hy _ (e : y = bx) => by have h1 := lb188 y hy; have h3 := hHL; omega)
          have hpw : 2 ^ (l.length - i) = 2 * 2 ^ (l.length - (i + 1)) := by rw [show l.length - i = (l.length - (i + 1)) + 1 by omega, Nat.pow_succ, Nat.mul_comm]
          refine Dr.eff 15 _ _ rfl (by intro d h; cases h; exact ⟨rfl, rfl⟩) rfl rfl rfl (EC.of (by intro _ _ h; cases h) (.inl rfl) (WV.call fn60 rfl (ih (f := i + 1) (ho198.okk (fun _ h _ => h.1)) hq206 (hrL.ext X196) hb200 hv (sub_next hch (by omega) (getq hz16 rfl)) (by omega) hd (by omega) (by omega)))) (fun v H' h => .inr (.inl rfl)) ?_
          rintro _ H201 ⟨⟨v202, hb203, hr204⟩, hx205⟩
          have B207 := But.trans B197 hx205
          have q209 := Nat.le_trans X196.bd hx205.bd
          have ho210 := ho198.but hx205 (fun _ h _ e => h.1 e) (fun z_ hz_ => by rw [hz_]; exact hb200.w)
          have ho211 := ho199.but hx205 (fun _ h _ e => h.1 e) (fun z_ hz_ => by rw [hz_]; exact hb200.w)
          refine Dr.fin rfl ?_
          refine nrm_blk (nrm_and ?_)
          refine AW.reg ?_
          refine AL.val rfl (.inl rfl) (HV.mv rfl) ?_
          refine AL.val rfl (.inl rfl) (HV.add rfl rfl (by omega)) ?_
          refine AL.val rfl (.inl rfl) (HV.as rfl) ?_
          refine AL.nil ?_
          refine nrm_and ?_
          exact ⟨(i + 1, v202, (wk (tryC p l ag) (dg + 1).toNat (l.drop (i + 1)) (ch ++ [z14]) oi)), ⟨B207, ho210, ho211, by omega, by omega, by have q := wk_len (tryC_len p l ag) (m := (dg + 1).toNat) (l.drop (i + 1)) (ch ++ [z14]) oi; have q2 : (l.drop (i + 1)).length = l.length - (i + 1) := List.length_drop; rw [q2] at q; omega, hwk.trans (wkL_at (getq hz16 rfl)), hb203, hr204, trivial⟩, by first | omega | (dsimp only; omega), ⟨rfl, rfl, rfl, trivial⟩⟩
      · -- 11 first
        have hq212 := X11.bd
        rintro v213 H214 ⟨hx215, ho216⟩
        have E217 := ho216.narrow (ok' := fun b => some b = v213.ownBlock) (kP_flat kI_flat kI_flat) (fun b q => q)
        have lb218 : ∀ b, some b = v213.ownBlock → H7.bd ≤ b := fun b q => Nat.le_trans hq212 (ho216.blk b q).1
        have B220 := But.trans B8 (Ext.but hx215 _)
        have X221 := Ext.trans X11 hx215
        have ho222 := ho9.ext hx215
        have ho223 := ho10.ext hx215
        have hb224 := hbL.ext hx215
        have X225 := Ext.refl H214
        have hq226 := X221.bd
        have lt233 := E217.ltb
        refine Dr.eff 1 _ _ rfl (by intro d h; cases h; exact ⟨rfl, rfl⟩) rfl rfl rfl (EC.of (by intro _ _ h; cases h) (.inl rfl) (WV.bsK (K := (kP kI kI)) (l := ([] : List (Int × Int))) (css := []) sl28 rfl rfl (by first | rfl | (simp [Instr.fill, Value.cells, kI, Kd.sc]; done) | (simp [Instr.fill, Value.cells, kI, Kd.sc, rng1, rng2, rng3, rng4, kP])) rfl segs_nil)) (fun v H' h => .inl (h.1)) ?_
        rintro v227 H228 ⟨hx229, ho230⟩
        have E231 := ho230.narrow (ok' := fun b => some b = v227.ownBlock) (kP_flat kI_flat kI_flat) (fun b q => q)
        have lb232 : ∀ b, some b = v227.ownBlock → H7.bd ≤ b := fun b q => Nat.le_trans hq226 (ho230.blk b q).1
        have B234 := But.trans B220 (Ext.but hx229 _)
        have X235 := Ext.trans X221 hx229
        have X236 := Ext.trans X225 hx229
        have ho237 := ho222.ext hx229
        have ho238 := ho223.ext hx229
        have hb239 := hb224.ext hx229
        have E240 := E217.ext hx229
        have dis241 : ∀ b, some b = v227.ownBlock → some b = v213.ownBlock → False := fun b h1 h2 => by have q1 : H214.bd ≤ b := (ho230.blk b h1).1; have q2 := lt233 b h2; omega
        have X242 := Ext.refl H228
        have hq250 := X235.bd
        have lt251 := E240.ltb
        refine Dr.eff 3 _ _ rfl (by intro d h; cases h; exact ⟨rfl, rfl⟩) rfl rfl rfl (EC.of (by intro _ _ h; cases h) (.inl rfl) (WV.apk sl28 rfl rfl E231 ho238 (by simp; omega) (by simp; omega) (fun y hy _ e => by have h1 := hy.2; have h2 := lb232 y e; have h3 := hHL; omega))) ?_ ?_
        · -- kept
          rintro v243 H244 ⟨hx245, ho246, hb247⟩
          have E248 := ho246.narrow (ok' := fun b => some b = v243.ownBlock) (kP_flat kI_flat kI_flat) (fun b q => q)
          have lb249 : ∀ b, some b = v243.ownBlock → H7.bd ≤ b := fun b q => (hb247 b q).elim (fun e => lb232 b e) (fun e => Nat.le_trans hq250 e)
          have X252 := Ext.thru X235 hx245 lb232
          have B253 := But.thru B234 hx245 (fun b hb => Nat.le_trans hHL (lb232 b hb))
          have ho254 := ho237.but hx245 (fun y hy _ e => by have h1 := hy.2; have h2 := lb232 y e; have h3 := hHL; omega) (fun y e => (E231.blk y e).2.2)
          have ho255 := ho238.but hx245 (fun y hy _ e => by have h1 := hy.2; have h2 := lb232 y e; have h3 := hHL; omega) (fun y e => (E231.blk y e).2.2)
          have hb256 := hb239.but hx245 (fun e => by have h2 := lb232 _ e; have h3 := hHL; omega)
          have E257 := E240.but hx245 (fun y hy _ e => dis241 y e hy) (fun y e => (E231.blk y e).2.2)
          have dis258 : ∀ b, some b = v243.ownBlock → some b = v213.ownBlock → False := fun b h1 h2 => (hb247 b h1).elim (fun e => dis241 b e h2) (fun e => by have q2 := lt251 b h2; omega)
          refine .inr (.inr ?_)
          exact (kept_cons (.inr ⟨_, _, _, rfl, rfl, rfl, (RV.of (by intro _ _ h; cases h) (.inl rfl) (fun _ xd => HV.add rfl rfl (by omega)))⟩) (kept_cons (.inr ⟨_, _, _, rfl, rfl, rfl, (RV.of (by intro _ _ h; cases h) (.inl rfl) (fun _ xd => HV.mv rfl))⟩) (kept_cons (.inr ⟨_, _, _, rfl, rfl, rfl, (RV.of (by intro _ _ h; cases h) (.inl rfl) (fun _ xd => HV.lda (cs := [.int .i64 z14.1, .int .i64 z14.2]) rfl va36 (fun j u hu => rdc_ext xd ((hC18.ext X252) j u hu))))⟩) (kept_cons (.inr ⟨_, _, _, rfl, rfl, rfl, (RV.of (by intro _ _ h; cases h) (.inl rfl) (fun _ xd => hP19 rfl rfl))⟩) (kept_cons (.inr ⟨_, _, _, rfl, rfl, rfl, (RV.of (by intro _ _ h; cases h) (.inl rfl) (fun _ xd => HV.mv rfl))⟩) (kept_cons (.inr ⟨_, _, _, rfl, rfl, rfl, (RV.of (by intro _ _ h; cases h) (.inl rfl) (fun _ xd => HV.ld rfl va28 (rdc_ext xd (at_cell_add (j := 1) hb256 rfl))))⟩) (kept_cons (.inr ⟨_, _, _, rfl, rfl, rfl, (RV.of (by intro _ _ h; cases h) (.inl rfl) (fun _ xd => HV.fa fl79_1 rfl))⟩) (kept_cons (.inr ⟨_, _, _, rfl, rfl, rfl, (RV.of (by intro _ _ h; cases h) (.inl rfl) (fun _ xd => HV.nc rfl))⟩) (kept_cons (.inr ⟨_, _, _, rfl, rfl, rfl, (RV.of (by intro _ _ h; cases h) (.inl rfl) (fun _ xd => HV.mv rfl))⟩) (kept_cons (.inl rfl) (kept_cons (.inr ⟨_, _, _, rfl, rfl, rfl, (RV.of (by intro _ _ h; cases h) (.inl rfl) (fun _ xd => HV.mv rfl))⟩) kept_nil)))))))))))
        rintro v243 H244 ⟨hx245, ho246, hb247⟩
        have E248 := ho246.narrow (ok' := fun b => some b = v243.ownBlock) (kP_flat kI_flat kI_flat) (fun b q => q)
        have lb249 : ∀ b, some b = v243.ownBlock → H7.bd ≤ b := fun b q => (hb247 b q).elim (fun e => lb232 b e) (fun e => Nat.le_trans hq250 e)
        have X259 := Ext.thru X235 hx245 lb232
        have B260 := But.thru B234 hx245 (fun b hb => Nat.le_trans hHL (lb232 b hb))
        have ho261 := ho237.but hx245 (fun y hy _ e => by have h1 := hy.2; have h2 := lb232 y e; have h3 := hHL; omega) (fun y e => (E231.blk y e).2.2)
        have ho262 := ho238.but hx245 (fun y hy _ e => by have h1 := hy.2; have h2 := lb232 y e; have h3 := hHL; omega) (fun y e => (E231.blk y e).2.2)
        have hb263 := hb239.but hx245 (fun e => by have h2 := lb232 _ e; have h3 := hHL; omega)
        have E264 := E240.but hx245 (fun y hy _ e => dis241 y e hy) (fun y e => (E231.blk y e).2.2)
        have dis265 : ∀ b, some b = v243.ownBlock → some b = v213.ownBlock → False := fun b h1 h2 => (hb247 b h1).elim (fun e => dis241 b e h2) (fun e => by have q2 := lt251 b h2; omega)
        have X266 := Ext.refl H244
        have hq274 := X259.bd
        have lt275 := E264.ltb
        refine Dr.eff 12 _ _ rfl (by intro d h; cases h; exact ⟨rfl, rfl⟩) rfl rfl rfl (EC.of (by intro _ _ h; cases h) (.inl rfl) (WV.apk sl28 rfl rfl E248 E264.rd (by simp; omega) (by simp; omega) (fun y hy _ e => dis265 y e hy))) ?_ ?_
        · -- kept
          rintro v267 H268 ⟨hx269, ho270, hb271⟩
          have E272 := ho270.narrow (ok' := fun b => some b = v267.ownBlock) (kP_flat kI_flat kI_flat) (fun b q => q)
          have lb273 : ∀ b, some b = v267.ownBlock → H7.bd ≤ b := fun b q => (hb271 b q).elim (fun e => lb249 b e) (fun e => Nat.le_trans hq274 e)
          have X276 := Ext.thru X259 hx269 lb249
          have B277 := But.thru B260 hx269 (fun b hb => Nat.le_trans hHL (lb249 b hb))
          have ho278 := ho261.but hx269 (fun y hy _ e => by have h1 := hy.2; have h2 := lb249 y e; have h3 := hHL; omega) (fun y e => (E248.blk y e).2.2)
          have ho279 := ho262.but hx269 (fun y hy _ e => by have h1 := hy.2; have h2 := lb249 y e; have h3 := hHL; omega) (fun y e => (E248.blk y e).2.2)
          have hb280 := hb263.but hx269 (fun e => by have h2 := lb249 _ e; have h3 := hHL; omega)
          refine .inr (.inr ?_)
          exact (kept_cons (.inr ⟨_, _, _, rfl, rfl, rfl, (RV.of (by intro _ _ h; cases h) (.inl rfl) (fun _ xd => HV.add rfl rfl (by omega)))⟩) (kept_cons (.inr ⟨_, _, _, rfl, rfl, rfl, (RV.of (by intro _ _ h; cases h) (.inl rfl) (fun _ xd => HV.mv rfl))⟩) (kept_cons (.inl rfl) (kept_cons (.inl rfl) (kept_cons (.inl rfl) (kept_cons (.inl rfl) (kept_cons (.inl rfl) (kept_cons (.inl rfl) (kept_cons (.inl rfl) (kept_cons (.inl rfl) (kept_cons (.inr ⟨_, _, _, rfl, rfl, rfl, (RV.of (by intro _ _ h; cases h) (.inl rfl) (fun _ xd => HV.mv rfl))⟩) kept_nil)))))))))))
        rintro v267 H268 ⟨hx269, ho270, hb271⟩
        have E272 := ho270.narrow (ok' := fun b => some b = v267.ownBlock) (kP_flat kI_flat kI_flat) (fun b q => q)
        have lb273 : ∀ b, some b = v267.ownBlock → H7.bd ≤ b := fun b q => (hb271 b q).elim (fun e => lb249 b e) (fun e => Nat.le_trans hq274 e)
        have X281 := Ext.thru X259 hx269 lb249
        have B282 := But.thru B260 hx269 (fun b hb => Nat.le_trans hHL (lb249 b hb))
        have ho283 := ho261.but hx269 (fun y hy _ e => by have h1 := hy.2; have h2 := lb249 y e; have h3 := hHL; omega) (fun y e => (E248.blk y e).2.2)
        have ho284 := ho262.but hx269 (fun y hy _ e => by have h1 := hy.2; have h2 := lb249 y e; have h3 := hHL; omega) (fun y e => (E248.blk y e).2.2)
        have hb285 := hb263.but hx269 (fun e => by have h2 := lb249 _ e; have h3 := hHL; omega)
        have hq291 := RdK.okk (ok' := (fun y => y ≠ bx)) E272.rd (fun y hy _ (e : y = bx) => by have h1 := lb273 y hy; have h3 := hHL; omega)
        have hpw : 2 ^ (l.length - i) = 2 * 2 ^ (l.length - (i + 1)) := by rw [show l.length - i = (l.length - (i + 1)) + 1 by omega, Nat.pow_succ, Nat.mul_comm]
        refine Dr.eff 15 _ _ rfl (by intro d h; cases h; exact ⟨rfl, rfl⟩) rfl rfl rfl (EC.of (by intro _ _ h; cases h) (.inl rfl) (WV.call fn60 rfl (ih (f := i + 1) (ho283.okk (fun _ h _ => h.1)) hq291 (hrL.ext X281) hb285 hv (sub_next hch (by omega) (getq hz16 rfl)) (by omega) hd (by omega) (by omega)))) (fun v H' h => .inr (.inl rfl)) ?_
        rintro _ H286 ⟨⟨v287, hb288, hr289⟩, hx290⟩
        have B292 := But.trans B282 hx290
        have q294 := Nat.le_trans X281.bd hx290.bd
        have ho295 := ho283.but hx290 (fun _ h _ e => h.1 e) (fun z_ hz_ => by rw [hz_]; exact hb285.w)
        have ho296 := ho284.but hx290 (fun _ h _ e => h.1 e) (fun z_ hz_ => by rw [hz_]; exact hb285.w)
        refine Dr.fin rfl ?_
        refine nrm_blk (nrm_and ?_)
        refine AW.reg ?_
        refine AL.val rfl (.inl rfl) (HV.mv rfl) ?_
        refine AL.val rfl (.inl rfl) (HV.add rfl rfl (by omega)) ?_
        refine AL.val rfl (.inl rfl) (HV.as rfl) ?_
        refine AL.nil ?_
        refine nrm_and ?_
        exact ⟨(i + 1, v287, (wk (tryC p l ag) (dg + 1).toNat (l.drop (i + 1)) (ch ++ [z14]) oi)), ⟨B292, ho295, ho296, by omega, by omega, by have q := wk_len (tryC_len p l ag) (m := (dg + 1).toNat) (l.drop (i + 1)) (ch ++ [z14]) oi; have q2 : (l.drop (i + 1)).length = l.length - (i + 1) := List.length_drop; rw [q2] at q; omega, hwk.trans (wkL_at (getq hz16 rfl)), hb288, hr289, trivial⟩, by first | omega | (dsimp only; omega), ⟨rfl, rfl, rfl, trivial⟩⟩
    · -- else
      refine AW.exit ?_
      refine ex_and (ex_and (ex_blk ?_))
      refine post_none rfl ?_ (.inl rfl)
      exact ⟨⟨_, hbL, by unfold wk; rw [if_neg (by omega), hwk, show i = l.length by omega, List.drop_length]; exact hrL⟩, B8⟩
end Go.Proofs.YtbjcgcililpfdaaGreat.VC

