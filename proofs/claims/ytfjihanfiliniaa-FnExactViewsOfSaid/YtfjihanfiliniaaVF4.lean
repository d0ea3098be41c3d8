/- Walks. -/
import Derived.Test.YtfjihanfiliniaaVF3
import Derived.Test.YtfjihanfiliniaaVS3
set_option linter.unusedVariables false
set_option linter.unusedSimpArgs false
namespace Go.Proofs.Ytfjihanfiliniaa.VC
open Go Go.RowKit
theorem mark_step {k : List Int} {q p : Int} {i : Nat} (he : ∀ j, j < i → k.getD j 0 = q + (j : Int)) (hi : i < k.length) (hp : p = q + i) : ∀ j, j < i + 1 → (k.set (i : Int).toNat p).getD j 0 = q + (j : Int) := fun j hj => by
  rw [Int.toNat_natCast]
  simp only [List.getD_eq_getElem?_getD] at he ⊢
  by_cases e : j = i
  · subst e; simp [hi, hp]
  · rw [List.getElem?_set_ne (fun e' => e e'.symm)]; exact he j (by omega)
def offs (l : List (List Int)) (i : Nat) : Int := (List.range i).foldl (fun s t => s + ((l.getD t []).length : Int)) 0
theorem offs_succ {l : List (List Int)} {i : Nat} (hi : i < l.length) : offs l (i + 1) = offs l i + (l.getD i []).length := by
  unfold offs
  rw [List.range_succ, List.foldl_append]; rfl
theorem offs_le {l : List (List Int)} {B : Nat} (h : ∀ x ∈ l, x.length ≤ B) : ∀ i : Nat, i ≤ l.length → 0 ≤ offs l i ∧ offs l i ≤ (i * B : Nat)
  | 0, _ => by simp [offs]
  | i + 1, hi => by
    have h1 := offs_le h i (by omega)
    have h2 := h l[i] (List.getElem_mem (by omega))
    have e : l.getD i [] = l[i] := by simp [show i < l.length by omega]
    rw [offs_succ (by omega), e, Nat.succ_mul]
    omega
def sameLen (k l : List (List Int)) : Prop := k.length = l.length ∧ ∀ t, (k.getD t []).length = (l.getD t []).length
theorem sameLen.refl (l : List (List Int)) : sameLen l l := ⟨rfl, fun _ => rfl⟩
theorem sameLen.trans {a b c : List (List Int)} (h : sameLen a b) (k : sameLen b c) : sameLen a c := ⟨h.1.trans k.1, fun t => (h.2 t).trans (k.2 t)⟩
theorem sameLen.set {k l : List (List Int)} (h : sameLen k l) {i : Nat} {z x : List Int} (hz : k[(i : Int).toNat]? = some z) (hx : x.length = z.length) : sameLen (k.set (i : Int).toNat x) l := by
  rw [Int.toNat_natCast] at hz ⊢
  refine ⟨by simp [h.1], fun t => ?_⟩
  rw [← h.2 t]
  have hi := (List.getElem?_eq_some_iff.1 hz).1
  simp only [List.getD_eq_getElem?_getD]
  by_cases e : t = i
  · subst e; simp [hi, hx, ← (List.getElem?_eq_some_iff.1 hz).2]
  · rw [List.getElem?_set_ne (fun e' => e e'.symm)]
def heldL (q : Int) (l k : List (List Int)) (n : Nat) : Prop := ∀ i, i < n → ∀ j : Nat, j < (k.getD i []).length → (k.getD i []).getD j 0 = q + offs l i + (j : Int)
theorem heldL.step {q p : Int} {l k : List (List Int)} {i : Nat} {z x : List Int} (h : heldL q l k i) (hz : k[(i : Int).toNat]? = some z) (hp : p = q + offs l i) (hx : ∀ j : Nat, j < x.length → x.getD j 0 = p + (j : Int)) : heldL q l (k.set (i : Int).toNat x) (i + 1) := by
  rw [Int.toNat_natCast] at hz ⊢
  have hi := (List.getElem?_eq_some_iff.1 hz).1
  intro t ht j hj
  by_cases e : t = i
  · subst e
    have e2 : (k.set t x).getD t [] = x := by simp [List.getD_eq_getElem?_getD, hi]
    rw [e2] at hj ⊢
    rw [hx j hj, hp]
  · have e2 : (k.set i x).getD t [] = k.getD t [] := by
      simp only [List.getD_eq_getElem?_getD]
      rw [List.getElem?_set_ne (fun e' => e e'.symm)]
    rw [e2] at hj ⊢
    exact h t (by omega) j hj
theorem map_snocV {α β : Type} {f : α → β} {l : List α} {i : Nat} {z : α} (hz : l[(i : Int).toNat]? = some z) : (l.take (i + 1)).map f = (l.take i).map f ++ [f z] := by
  rw [Int.toNat_natCast] at hz
  obtain ⟨hi, rfl⟩ := List.getElem?_eq_some_iff.1 hz
  rw [List.take_succ_eq_append_getElem hi, List.map_append]
  rfl
/-- What ViewsOf answers. -/
noncomputable def viewsA (n : Int) (s : List Int) (l : List (Int × List Int)) (g : List Int) : List (List Int) := if codeT n s l g = 0 then (seeV n g l l.length).map Prod.fst else []
noncomputable def viewsB (n : Int) (s : List Int) (l : List (Int × List Int)) (g : List Int) : List (List Int) := if codeT n s l g = 0 then (seeV n g l l.length).map Prod.snd else []
theorem views_short (n : Int) (s : List Int) (l : List (Int × List Int)) (g : List Int) : ((viewsA n s l g).length ≤ 1024 ∧ ∀ x ∈ viewsA n s l g, x.length ≤ 1024) ∧ (viewsB n s l g).length ≤ 1024 ∧ ∀ x ∈ viewsB n s l g, x.length ≤ 1024 := by
  unfold viewsA viewsB
  by_cases h : codeT n s l g = 0
  · rw [if_pos h, if_pos h]
    obtain ⟨hok, hg⟩ := code0.1 h
    have hse := see_all (g := g) hok
    have h7 := ris_len hok.1.2.1 hg
    have hl := hok.1.2.2.1
    have hl2 := hse.len
    refine ⟨⟨by rw [List.length_map]; omega, fun x hx => ?_⟩, by rw [List.length_map]; omega, fun x hx => ?_⟩
    · obtain ⟨e, he, rfl⟩ := List.mem_map.1 hx
      have := hse.vl e he; omega
    · obtain ⟨e, he, rfl⟩ := List.mem_map.1 hx
      have := hse.cl e he; have := hok.1.1; omega
  · rw [if_neg h, if_neg h]
    exact ⟨⟨by simp, fun x hx => by cases hx⟩, by simp, fun x hx => by cases hx⟩
variable {W : World} {H : Hp}

set_option maxRecDepth 100000 in
theorem specVW_ok {vs v : Value} {s : List Int} {l : List (Int × List Int)} {oks ok : Nat → Prop} (n : Int) (hs : RdK kI W H oks vs s) (hr : RdK (kP kI (kR kI)) W H ok v l) {vg : Value} {g : List Int} {okg : Nat → Prop} (hgr : RdK kI W H okg vg g) : ACalls Try.prog W 27 #[.agg #[.int .i64 n, vs, v], vg] H (fun r H' => (∃ u v k m, r = .tuple #[u, v, .int .i64 (codeT n s l g)] ∧ k = viewsA n s l g ∧ m = viewsB n s l g ∧ RdK (kR kI) W H' (fun _ => True) u k ∧ RdK (kR kI) W H' (fun _ => True) v m) ∧ Ext H H') := by
  refine ACalls.of (args := [.agg #[.int .i64 n, vs, v], vg]) Try.func27 rfl rfl ?_
  have X0 := Ext.refl H
  have hm1 := hs.max
  have hm2 := hr.max
  have hm3 := hgr.max
  refine AW.rs ?_
  refine AL.w rfl (.inl rfl) (WV.bx rfl rfl) ?_
  rintro _ H5 ⟨b4, rfl, hx6, hn7, hb8⟩
  have o9 := Nat.le_trans X0.bd hn7
  have X10 := Ext.trans X0 hx6
  have X11 := Ext.refl H5
  refine AL.val rfl (.inl rfl) (HV.as rfl) ?_
  refine AL.val rfl (.inl rfl) (HV.as rfl) ?_
  refine AL.val rfl (.inl rfl) (HV.as rfl) ?_
  refine AL.nx ?_
  refine AW.seq ?_
  refine AW.rs ?_
  refine AL.val rfl (.inl rfl) (HV.mv rfl) ?_
  refine AL.w rfl (.inl rfl) (WV.call fn45 rfl (l06Asked_ok (hs.ext X10) (hr.ext X10) hb8 (hgr.ext X10))) ?_
  rintro _ H12 ⟨rfl, hx13⟩
  have X14 := Ext.trans X10 hx13
  have X15 := Ext.trans X11 hx13
  have hb16 := hb8.ext hx13
  refine AL.val rfl (.inl rfl) (HV.as rfl) ?_
  refine AL.nx ?_
  refine AW.rs ?_
  refine AL.val rfl (.inl rfl) (HV.mv rfl) ?_
  refine AL.val rfl (.inl rfl) (HV.nei rfl rfl) ?_
  refine AL.nx ?_
  refine AW.ifd rfl (fun c17 => ?_) (fun c17 => ?_)
  · -- then
    refine AW.rs ?_
    have X18 := Ext.refl H12
    have y19 := hb16.lt
    have o20 := X14.bd
    have o21 := X15.bd
    have o22 := X18.bd
    refine AL.w rfl (.inl rfl) (WV.bsK (K := (kO 2 kI)) (l := ([] : List (List Int))) (css := []) sl45 rfl rfl (by first | rfl | (simp [Instr.fill, Value.cells, kI, kB, kU, kS, Kd.sc]; done) | (simp [Instr.fill, Value.cells, kI, kB, kU, kS, Kd.sc, rng1, rng2, rng3, rng4, kP])) rfl segs_nil) ?_
    rintro v23 H24 ⟨hx25, ho26⟩
    have X27 := Ext.trans X14 hx25
    have X28 := Ext.trans X15 hx25
    have X29 := Ext.trans X18 hx25
    have hb30 := hb16.ext hx25
    have ho31 := ho26.deep0
    have X33 := Ext.refl H24
    have y34 := hb30.lt
    have o35 := X27.bd
    have o36 := X28.bd
    have o37 := X29.bd
    have o38 := X33.bd
    have a39 := ho31.ltb
    have ho40 := ho31.okk (ok' := fun b => H12.bd ≤ b ∧ b < H24.bd) (fun b hb hlt => ⟨hb, hlt⟩)
    refine AL.w rfl (.inl rfl) (WV.bsK (K := (kO 2 kI)) (l := ([] : List (List Int))) (css := []) sl45 rfl rfl (by first | rfl | (simp [Instr.fill, Value.cells, kI, kB, kU, kS, Kd.sc]; done) | (simp [Instr.fill, Value.cells, kI, kB, kU, kS, Kd.sc, rng1, rng2, rng3, rng4, kP])) rfl segs_nil) ?_
    rintro v41 H42 ⟨hx43, ho44⟩
    have X45 := Ext.trans X27 hx43
    have X46 := Ext.trans X28 hx43
    have X47 := Ext.trans X29 hx43
    have X48 := Ext.trans X33 hx43
    have ho49 := ho40.ext hx43
    have hb50 := hb30.ext hx43
    have ho51 := ho44.deep0
    refine AL.val rfl (.inl rfl) (HV.mv rfl) ?_
    refine AL.val rfl (.inl rfl) (HV.as rfl) ?_
    refine AL.val rfl (.inl rfl) (HV.as rfl) ?_
    refine AL.val rfl (.inl rfl) (HV.as rfl) ?_
    refine AL.nx ?_
    refine AW.ret ?_
    refine ret_and ?_
    refine post_three rfl rfl rfl rfl ?_ (.inr rfl)
    have hne := c17; exact ⟨⟨_, _, _, _, rfl, (if_neg hne).symm, (if_neg hne).symm, ((rd_ofO ho49.rd)).okk (ok' := fun _ => True) (fun _ _ _ => trivial), ((rd_ofO ho51.rd)).okk (ok' := fun _ => True) (fun _ _ _ => trivial)⟩, X45⟩
  · -- else
    refine AW.skip ?_
    refine nrm_and ?_
    refine AW.rs ?_
    have hcd : codeT n s l g = 0 := (by omega)
    have hok := (code0.1 hcd).1
    have hgr_ := (code0.1 hcd).2
    have hs7 := hok.1.2.1
    have hg7 := ris_len hs7 hgr_
    have hin := grp_in hgr_
    refine AL.val rfl (.inl rfl) (HV.mv rfl) ?_
    refine AL.w rfl (.inl rfl) (WV.call fn55 rfl (see_ok (g := g) (hs.ext X14) (hr.ext X14) hb16 (hgr.ext X14) hok hgr_)) ?_
    rintro _ H53 ⟨⟨bx54, lab55, vl56, vc57, lv58, cv59, rfl, hL60⟩, hx61⟩
    have X62 := Ext.trans X14 hx61
    have X63 := Ext.trans X15 hx61
    have hb64 := hb16.ext hx61
    have X65 := Ext.refl H53
    refine AL.val rfl (.inl rfl) (HV.as rfl) ?_
    refine AL.nx ?_
    refine AW.seq ?_
    refine AW.draw' [0, 1, 3, 7, 0, 16, 48, 112, 15, 511, 1023] mixed (by rfl) ?_
    refine Dr.read 0 _ 18 _ rfl rfl rfl rfl rfl (RV.of (by intro _ _ h; cases h) (.inl rfl) (fun _ xd => HV.mv rfl)) ?_
    refine Dr.read 1 _ 19 _ rfl rfl rfl rfl rfl (RV.of (by intro _ _ h; cases h) (.inl rfl) (fun _ xd => HV.nc rfl)) ?_
    refine Dr.read 2 _ 20 _ rfl rfl rfl rfl rfl (RV.of (by intro _ _ h; cases h) (.inl rfl) (fun _ xd => HV.fa fl82_1 rfl)) ?_
    refine Dr.read 3 _ 21 _ rfl rfl rfl rfl rfl (RV.of (by intro _ _ h; cases h) (.inl rfl) (fun _ xd => HV.ld rfl va45 (rdc_ext xd (at_cell_add hL60.hb rfl)))) ?_
    refine Dr.read 4 _ 22 _ rfl rfl rfl rfl rfl (RV.of (by intro _ _ h; cases h) (.inl rfl) (fun _ xd => HV.mv rfl)) ?_
    refine Dr.read 5 _ 23 _ rfl rfl rfl rfl rfl (RV.of (by intro _ _ h; cases h) (.inl rfl) (fun _ xd => HV.nc rfl)) ?_
    refine Dr.read 6 _ 24 _ rfl rfl rfl rfl rfl (RV.of (by intro _ _ h; cases h) (.inl rfl) (fun _ xd => HV.fa fl82_2 rfl)) ?_
    refine Dr.read 7 _ 25 _ rfl rfl rfl rfl rfl (RV.of (by intro _ _ h; cases h) (.inl rfl) (fun _ xd => HV.ld rfl va45 (rdc_ext xd (at_cell_add hL60.hb rfl)))) ?_
    refine Dr.read 8 _ 4 _ rfl rfl rfl rfl rfl (RV.of (by intro _ _ h; cases h) (.inl rfl) (fun _ xd => HV.as rfl)) ?_
    refine Dr.read 9 _ 5 _ rfl rfl rfl rfl rfl (RV.of (by intro _ _ h; cases h) (.inl rfl) (fun _ xd => HV.as rfl)) ?_
    refine Dr.read 10 _ 6 _ rfl rfl rfl rfl rfl (RV.of (by intro _ _ h; cases h) (.inl rfl) (fun _ xd => HV.as rfl)) ?_
    refine Dr.fin rfl ?_
    refine nrm_and ?_
    refine AW.ret ?_
    refine post_three rfl rfl rfl rfl ?_ (.inr rfl)
    exact ⟨⟨_, _, _, _, by rw [hcd], (if_pos hcd).symm, (if_pos hcd).symm, (hL60.rdL).okk (ok' := fun _ => True) (fun _ _ _ => trivial), (hL60.rdC).okk (ok' := fun _ => True) (fun _ _ _ => trivial)⟩, X62⟩

set_option maxRecDepth 100000 in
theorem implVW_ok {vs v : Value} {s : List Int} {l : List (Int × List Int)} {oks ok : Nat → Prop} (n : Int) (hs : RdK kI W H oks vs s) (hr : RdK (kP kI (kR kI)) W H ok v l) {vg : Value} {g : List Int} {okg : Nat → Prop} (hgr : RdK kI W H okg vg g) : ACalls Try.prog W 28 #[.agg #[.int .i64 n, vs, v], vg] H (fun r H' => (∃ (u v : Value) (k m : List (List Int)) (lb : Nat → Nat), r = .tuple #[u, v, .int .i64 (codeT n s l g)] ∧ k = viewsA n s l g ∧ m = viewsB n s l g ∧ OwnD (kO 2 kI) 22 W H' (fun b => H.bd ≤ b ∧ lb b = 0) u k ∧ OwnD (kO 2 kI) 22 W H' (fun b => H.bd ≤ b ∧ lb b = 1) v m) ∧ Ext H H') := by
  refine ACalls.of (args := [.agg #[.int .i64 n, vs, v], vg]) Try.func28 rfl rfl ?_
  have X0 := Ext.refl H
  have hm1 := hs.max
  have hm2 := hr.max
  have hm3 := hgr.max
  refine AW.rs ?_
  refine AL.w rfl (.inl rfl) (WV.bx rfl rfl) ?_
  rintro _ H5 ⟨b4, rfl, hx6, hn7, hb8⟩
  have o9 := Nat.le_trans X0.bd hn7
  have X10 := Ext.trans X0 hx6
  have X11 := Ext.refl H5
  refine AL.val rfl (.inl rfl) (HV.as rfl) ?_
  refine AL.val rfl (.inl rfl) (HV.as rfl) ?_
  refine AL.val rfl (.inl rfl) (HV.as rfl) ?_
  refine AL.nx ?_
  refine AW.seq ?_
  refine AW.rs ?_
  refine AL.val rfl (.inl rfl) (HV.lda (cs := [.int .i64 n, vs, v]) rfl va30 (at_cells hb8 rfl)) ?_
  refine AL.val rfl (.inl rfl) (HV.mv rfl) ?_
  refine AL.w rfl (.inl rfl) (WV.call fn47 rfl (tableCode_ok n (hs.ext X10) (hr.ext X10) (hgr.ext X10))) ?_
  rintro _ H12 ⟨rfl, hx13⟩
  have X14 := Ext.trans X10 hx13
  have X15 := Ext.trans X11 hx13
  have hb16 := hb8.ext hx13
  refine AL.val rfl (.inl rfl) (HV.as rfl) ?_
  refine AL.nx ?_
  refine AW.rs ?_
  refine AL.val rfl (.inl rfl) (HV.mv rfl) ?_
  refine AL.val rfl (.inl rfl) (HV.nei rfl rfl) ?_
  refine AL.nx ?_
  refine AW.ifd rfl (fun c17 => ?_) (fun c17 => ?_)
  · -- then
    refine AW.rs ?_
    refine AL.val rfl (.inl rfl) (HV.mv rfl) ?_
    refine AL.val rfl (.inl rfl) (HV.as rfl) ?_
    refine AL.val rfl (.inl rfl) (HV.as rfl) ?_
    refine AL.val rfl (.inl rfl) (HV.as rfl) ?_
    refine AL.nx ?_
    refine AW.ret ?_
    refine ret_and ?_
    refine post_three rfl rfl rfl rfl ?_ (.inr rfl)
    have hne := c17; exact ⟨⟨_, _, [], [], fun _ => 0, rfl, (if_neg hne).symm, (if_neg hne).symm, OwnD.nil _, OwnD.nil _⟩, X14⟩
  · -- else
    refine AW.skip ?_
    refine nrm_and ?_
    refine AW.rs ?_
    have hcd : codeT n s l g = 0 := (by omega)
    have hok := (code0.1 hcd).1
    have hgr_ := (code0.1 hcd).2
    have hs7 := hok.1.2.1
    have hg7 := ris_len hs7 hgr_
    have hin := grp_in hgr_
    have hse := see_all (g := g) hok
    have hsl := hse.len
    have hl7 := hok.1.2.2.1
    have X18 := Ext.refl H12
    have y19 := hb16.lt
    have o20 := X14.bd
    have o21 := X15.bd
    have o22 := X18.bd
    refine AL.w rfl (.inl rfl) (WV.bsK (K := kV) (l := ([] : List Value)) (css := []) sl45 rfl rfl (by first | rfl | simp [Instr.fill]) rfl segs_nil) ?_
    rintro v23 H24 ⟨hx25, ho26⟩
    have X27 := Ext.trans X14 hx25
    have X28 := Ext.trans X15 hx25
    have X29 := Ext.trans X18 hx25
    have hb30 := hb16.ext hx25
    have X32 := Ext.refl H24
    have y33 := hb30.lt
    have o34 := X27.bd
    have o35 := X28.bd
    have o36 := X29.bd
    have o37 := X32.bd
    have a38 := ho26.ltb
    refine AL.w rfl (.inl rfl) (WV.bsK (K := kV) (l := ([] : List Value)) (css := []) sl45 rfl rfl (by first | rfl | simp [Instr.fill]) rfl segs_nil) ?_
    rintro v39 H40 ⟨hx41, ho42⟩
    have X43 := Ext.trans X27 hx41
    have X44 := Ext.trans X28 hx41
    have X45 := Ext.trans X29 hx41
    have X46 := Ext.trans X32 hx41
    have ho47 := ho26.ext hx41
    have hb48 := hb30.ext hx41
    refine AL.val rfl (.inl rfl) (HV.as rfl) ?_
    refine AL.val rfl (.inl rfl) (HV.as rfl) ?_
    refine AL.nx ?_
    refine AW.seq ?_
    refine AW.seq ?_
    refine AW.draw' [0, 0, 2, 7, 15, 0] mixed (by rfl) ?_
    refine Dr.read 0 _ 20 _ rfl rfl rfl rfl rfl (RV.of (by intro _ _ h; cases h) (.inl rfl) (fun _ xd => HV.lda (cs := [.int .i64 n, vs, v]) rfl va30 (fun j u hu => rdc_ext xd ((at_cells hb48 rfl) j u hu)))) ?_
    refine Dr.read 1 _ 21 _ rfl rfl rfl rfl rfl (RV.of (by intro _ _ h; cases h) (.inl rfl) (fun _ xd => HV.mv rfl)) ?_
    refine Dr.read 5 _ 25 _ rfl rfl rfl rfl rfl (RV.of (by intro _ _ h; cases h) (.inl rfl) (fun _ xd => HV.mv rfl)) ?_
    refine Dr.eff 2 _ _ rfl (by intro d h; cases h; exact ⟨rfl, rfl⟩) rfl rfl rfl (EC.of (by intro _ _ h; cases h) (.inl rfl) (WV.call fn49 rfl (crowdOf_ok (hgr.ext X43) (fun x hx => by have := hin x hx; omega)))) (fun v H' h => .inl (h.2)) ?_
    rintro _ H50 ⟨rfl, hx51⟩
    rw [(bits_nat hs7 hgr_).2.1]
    have X52 := Ext.trans X43 hx51
    have X53 := Ext.trans X44 hx51
    have X54 := Ext.trans X45 hx51
    have X55 := Ext.trans X46 hx51
    have ho56 := ho47.ext hx51
    have ho57 := ho42.ext hx51
    have hb58 := hb48.ext hx51
    have la59 := ho56.ltb
    have lb60 := ho57.ltb
    have X61 := Ext.refl H50
    have h0c := X52.bd
    refine Dr.eff 3 _ _ rfl (by intro d h; cases h; exact ⟨rfl, rfl⟩) rfl rfl rfl (EC.of (by intro _ _ h; cases h) (.inl rfl) (WV.call fn48 rfl (sights_ok (g := g) n (hs.ext X52) (hr.ext X52) (bitN g) (bit_128 hs7 hgr_) (grp_of hs7 hgr_) hok hin))) (fun v H' h => .inl (h.1)) ?_
    rintro v62 H63 ⟨hx64, ho65⟩
    have X66 := Ext.trans X52 hx64
    have X67 := Ext.trans X53 hx64
    have X68 := Ext.trans X54 hx64
    have X69 := Ext.trans X55 hx64
    have X70 := Ext.trans X61 hx64
    have ho71 := ho56.ext hx64
    have ho72 := ho57.ext hx64
    have hb73 := hb58.ext hx64
    have X74 := Ext.refl H63
    obtain ⟨lab, pr, hprl, hprr, hpr⟩ := ho65.rawX
    refine Dr.read 4 _ 24 _ rfl rfl rfl rfl rfl (RV.of (by intro _ _ h; cases h) (.inl rfl) (fun _ xd => HV.len Try.underlying67 rfl hprr.isSl)) ?_
    refine Dr.fin rfl ?_
    refine nrm_and ?_
    refine AW.block ?_
    have ho75 := ho71.narrow (ok' := fun b => H12.bd ≤ b ∧ some b = v23.ownBlock) kV_flat (fun b q => ⟨(ho71.blk b q).1, q⟩)
    have ho76 := ho72.narrow (ok' := fun b => H12.bd ≤ b ∧ some b = v39.ownBlock) kV_flat (fun b q => ⟨Nat.le_trans o36 (ho72.blk b q).1, q⟩)
    have d77 : ∀ b, some b = v23.ownBlock → some b = v39.ownBlock → False := fun b h1 h2 => by have x1 := a38 b h1; have x2 : H24.bd ≤ b := (ho72.blk b h2).1; omega
    have hchv : But (fun x => (x < H50.bd ∧ W.heap.size ≤ x)) H63 H63 := Ext.but X74 _
    have hbv := X74.bd
    have hlA : ∀ x, some x = v23.ownBlock → (x < H50.bd ∧ W.heap.size ≤ x) ∨ H63.bd ≤ x := fun x q => .inl ⟨la59 x q, (ho56.blk x q).2.2⟩
    have hlB : ∀ x, some x = v39.ownBlock → (x < H50.bd ∧ W.heap.size ≤ x) ∨ H63.bd ≤ x := fun x q => .inl ⟨lb60 x q, (ho57.blk x q).2.2⟩
    refine AW.loop (σ := Nat × Value × List Value × Value × List Value) (fun ⟨i, va, ka, vb, kb⟩ => [(4, (.slice none 0 0)), (5, (.slice none 0 0)), (6, .int .i64 0), (23, v62), (24, .int .i64 (pr.length : Int)), (8, va), (9, vb), (25, .int .i64 (i : Int))]) (fun ⟨i, va, ka, vb, kb⟩ H' => Ext H H' ∧ Ext H5 H' ∧ Ext H12 H' ∧ At W H' b4 ⟨30, [.int .i64 n, vs, v], 3⟩ ∧ i ≤ pr.length ∧ ka = (pr.take i).map Prod.fst ∧ kb = (pr.take i).map Prod.snd ∧ ka.length = i ∧ kb.length = i ∧ (∀ b, some b = va.ownBlock → some b = vb.ownBlock → False) ∧ OwnK kV 22 W H' (fun b => H12.bd ≤ b ∧ some b = va.ownBlock) va ka ∧ OwnK kV 22 W H' (fun b => H12.bd ≤ b ∧ some b = vb.ownBlock) vb kb ∧ But (fun x => (x < H50.bd ∧ W.heap.size ≤ x)) H63 H' ∧ H63.bd ≤ H'.bd ∧ (∀ x, some x = va.ownBlock → (x < H50.bd ∧ W.heap.size ≤ x) ∨ H63.bd ≤ x) ∧ (∀ x, some x = vb.ownBlock → (x < H50.bd ∧ W.heap.size ≤ x) ∨ H63.bd ≤ x) ∧ True) (fun ⟨i, va, ka, vb, kb⟩ => pr.length - i) (0, v23, [], v39, []) ⟨X66, X67, X68, hb73, Nat.zero_le _, rfl, rfl, rfl, rfl, d77, ho75, ho76, hchv, hbv, hlA, hlB, trivial⟩ ⟨rfl, rfl, rfl, rfl, rfl, rfl, rfl, rfl, trivial⟩ ?_
    rintro ⟨i, va, ka, vb, kb⟩ H78 ⟨X79, X80, X81, hb82, hi, hka, hkb, hla, hlb, hdis, hoA, hoB, hchv, hbv, hlA, hlB, _⟩
    refine AW.rs ?_
    refine AL.val rfl (.inl rfl) (HV.lti rfl rfl) ?_
    refine AL.nx ?_
    refine AW.seq ?_
    refine AW.ifd rfl (fun c83 => ?_) (fun c83 => ?_)
    · -- then
      refine AW.skip ?_
      refine nrm_and ?_
      refine AW.seq ?_
      refine AW.block ?_
      refine AW.rs ?_
      have hr84 := hprr.but hchv (fun b hb _ e => by have h1 : H50.bd ≤ b := hb; omega) (fun b e => e.2)
      have X85 := Ext.refl H78
      obtain ⟨p86, z87, cs88, hz89, hK90, hC91, hP92⟩ := RdK.ix (q := (i : Int)) hr84 sl67 (by omega) (by omega)
      obtain ⟨cs93, cs94, rfl, hK95, hK96⟩ := hK90
      obtain ⟨rfl, n98, isl97⟩ : cs93 = [z87.1] ∧ ∃ n, IsSl z87.1 n := hK95
      obtain ⟨rfl, n100, isl99⟩ : cs94 = [z87.2] ∧ ∃ n, IsSl z87.2 n := hK96
      refine AL.val rfl (.inl rfl) (hP92 rfl rfl) ?_
      refine AL.val rfl (.inl rfl) (HV.lda (cs := [z87.1, z87.2]) rfl va73 hC91) ?_
      have a106 := hoA.ltb
      have a107 := hoB.ltb
      refine AL.w rfl (.inl rfl) (WV.al ze73 rfl) ?_
      rintro _ H102 ⟨b101, rfl, hx103, hn104, hb105⟩
      have o108 := Nat.le_trans X79.bd hn104
      have o109 := Nat.le_trans X80.bd hn104
      have o110 := Nat.le_trans X81.bd hn104
      have o111 := Nat.le_trans X85.bd hn104
      have o112 := Nat.le_trans hbv hn104
      have a113 : ∀ b', some b' = va.ownBlock → b' = b101 → False := fun b' h1 h2 => by have x1 := a106 b' h1; have x2 := hn104; omega
      have a114 : ∀ b', some b' = vb.ownBlock → b' = b101 → False := fun b' h1 h2 => by have x1 := a107 b' h1; have x2 := hn104; omega
      have ne115 : b4 ≠ b101 := by have := hb82.lt; omega
      have ch116 := But.trans hchv (Ext.but hx103 _)
      have q117 := Nat.le_trans hbv hx103.bd
      have X118 := Ext.trans X79 hx103
      have X119 := Ext.trans X80 hx103
      have X120 := Ext.trans X81 hx103
      have X121 := Ext.trans X85 hx103
      have ho122 := hoA.ext hx103
      have ho123 := hoB.ext hx103
      have hb124 := hb82.ext hx103
      have X125 := Ext.refl H102
      refine AL.w0 (.inl rfl) (WV.st rfl rfl va73 rfl hb105 (Nat.le_of_ble_eq_true rfl) (one_cons (sl_one1 isl97) (one_cons (sl_one1 isl99) one_nil))) ?_
      rintro _ H126 ⟨hx127, hb128⟩
      have ch129 := But.thru ch116 hx127 (fun z_ hz_ => by rw [hz_]; exact o112)
      have q130 := Nat.le_trans q117 hx127.bd
      have X131 := Ext.thru X118 hx127 (fun z_ hz_ => by rw [hz_]; exact o108)
      have X132 := Ext.thru X119 hx127 (fun z_ hz_ => by rw [hz_]; exact o109)
      have X133 := Ext.thru X120 hx127 (fun z_ hz_ => by rw [hz_]; exact o110)
      have X134 := Ext.thru X121 hx127 (fun z_ hz_ => by rw [hz_]; exact o111)
      have ho136 := ho122.but hx127 (fun b hb _ e => a113 b hb.2 e) (fun z_ hz_ => by rw [hz_]; exact hb105.w)
      have ho137 := ho123.but hx127 (fun b hb _ e => a114 b hb.2 e) (fun z_ hz_ => by rw [hz_]; exact hb105.w)
      have hb138 := hb124.but hx127 ne115
      have hb139 : At W H126 b101 ⟨73, [z87.1, z87.2], 2⟩ := hb128
      refine AL.nx ?_
      refine AW.draw' [0, 0, 2, 6, 15, 0, 0, 64, 192, 511, 1023, 2047] mixed (by rfl) ?_
      refine Dr.read 0 _ 29 _ rfl rfl rfl rfl rfl (RV.of (by intro _ _ h; cases h) (.inl rfl) (fun _ xd => HV.mv rfl)) ?_
      refine Dr.read 1 _ 30 _ rfl rfl rfl rfl rfl (RV.of (by intro _ _ h; cases h) (.inl rfl) (fun _ xd => HV.fa fl73_0 rfl)) ?_
      refine Dr.read 2 _ 31 _ rfl rfl rfl rfl rfl (RV.of (by intro _ _ h; cases h) (.inl rfl) (fun _ xd => HV.ld rfl va22 (rdc_ext xd (at_cell hb139 rfl)))) ?_
      refine Dr.read 5 _ 34 _ rfl rfl rfl rfl rfl (RV.of (by intro _ _ h; cases h) (.inl rfl) (fun _ xd => HV.mv rfl)) ?_
      refine Dr.read 6 _ 35 _ rfl rfl rfl rfl rfl (RV.of (by intro _ _ h; cases h) (.inl rfl) (fun _ xd => HV.fa fl73_1 rfl)) ?_
      refine Dr.read 7 _ 36 _ rfl rfl rfl rfl rfl (RV.of (by intro _ _ h; cases h) (.inl rfl) (fun _ xd => HV.ld rfl va22 (rdc_ext xd (at_cell_add hb139 rfl)))) ?_
      have X140 := Ext.refl H126
      have y141 := hb138.lt
      have y142 := hb139.lt
      have o143 := X131.bd
      have o144 := X132.bd
      have o145 := X133.bd
      have o146 := X134.bd
      have o147 := X140.bd
      have a148 := ho136.ltb
      have a149 := ho137.ltb
      have hc154 : z87.1.cells = #[z87.1] := by obtain ⟨A, c, e⟩ := isl97; rw [e]; rfl
      have X155 := Ext.refl H126
      have y156 := hb138.lt
      have y157 := hb139.lt
      have o158 := X131.bd
      have o159 := X132.bd
      have o160 := X133.bd
      have o161 := X134.bd
      have o162 := X155.bd
      have a163 := ho136.ltb
      have a164 := ho137.ltb
      have hc169 : z87.2.cells = #[z87.2] := by obtain ⟨A, c, e⟩ := isl99; rw [e]; rfl
      refine Dr.eff2 3 8 _ _ _ _ rfl rfl (by intro d h; cases h; exact ⟨rfl, rfl⟩) (by intro d h; cases h; exact ⟨rfl, rfl⟩) rfl rfl rfl rfl rfl (EC.of (by intro _ _ h; cases h) (.inl rfl) (WV.bsK (K := kV) (l := [z87.1]) (css := [[z87.1]]) sl45 rfl rfl (by simp [Instr.fill, hc154, kV, rng1]) rfl (segs_cons ⟨rfl, _, isl97⟩ segs_nil))) (EC.of (by intro _ _ h; cases h) (.inl rfl) (WV.bsK (K := kV) (l := [z87.2]) (css := [[z87.2]]) sl45 rfl rfl (by simp [Instr.fill, hc169, kV, rng1]) rfl (segs_cons ⟨rfl, _, isl99⟩ segs_nil))) (fun v H' h => .inl (h.1)) (fun v H' h => .inl (h.1)) ?_ ?_
      · -- 3 first
        have X170 := Ext.refl H126
        have y171 := hb138.lt
        have y172 := hb139.lt
        have o173 := X131.bd
        have o174 := X132.bd
        have o175 := X133.bd
        have o176 := X134.bd
        have o177 := X170.bd
        have a178 := ho136.ltb
        have a179 := ho137.ltb
        have hc184 : z87.1.cells = #[z87.1] := by obtain ⟨A, c, e⟩ := isl97; rw [e]; rfl
        rintro v180 H181 ⟨hx182, ho183⟩
        have ch185 := But.trans ch129 (Ext.but hx182 _)
        have q186 := Nat.le_trans q130 hx182.bd
        have X187 := Ext.trans X131 hx182
        have X188 := Ext.trans X132 hx182
        have X189 := Ext.trans X133 hx182
        have X190 := Ext.trans X134 hx182
        have X191 := Ext.trans X170 hx182
        have ho192 := ho136.ext hx182
        have ho193 := ho137.ext hx182
        have hb194 := hb138.ext hx182
        have hb195 := hb139.ext hx182
        have X197 := Ext.refl H181
        have X204 := Ext.refl H181
        have y205 := hb194.lt
        have y206 := hb195.lt
        have o207 := X187.bd
        have o208 := X188.bd
        have o209 := X189.bd
        have o210 := X190.bd
        have o211 := X191.bd
        have o212 := X204.bd
        have a213 := ho192.ltb
        have a214 := ho193.ltb
        have a215 := ho183.ltb
        have hc220 : z87.2.cells = #[z87.2] := by obtain ⟨A, c, e⟩ := isl99; rw [e]; rfl
        refine Dr.eff2 4 8 _ _ _ _ rfl rfl (by intro d h; cases h; exact ⟨rfl, rfl⟩) (by intro d h; cases h; exact ⟨rfl, rfl⟩) rfl rfl rfl rfl rfl (EC.of (by intro _ _ h; cases h) (.inl rfl) (WV.apk sl45 rfl rfl ho192 ho183.rd (by simp; omega) (by simp; omega) (fun b hb _ e => Nat.lt_irrefl _ (Nat.lt_of_lt_of_le (a178 b e) hb)))) (EC.of (by intro _ _ h; cases h) (.inl rfl) (WV.bsK (K := kV) (l := [z87.2]) (css := [[z87.2]]) sl45 rfl rfl (by simp [Instr.fill, hc220, kV, rng1]) rfl (segs_cons ⟨rfl, _, isl99⟩ segs_nil))) ?_ (fun v H' h => .inl (h.1)) ?_ ?_
        · -- kept
          rintro v198 H199 ⟨hx200, ho201, hb202⟩
          have ho203 := ho201.narrow (ok' := fun b => H12.bd ≤ b ∧ some b = v198.ownBlock) kV_flat (fun b q => ⟨(hb202 b q).elim (fun e => (ho192.blk b e).1.1) (fun e => Nat.le_trans X189.bd e), q⟩)
          have d221 : ∀ b, some b = vb.ownBlock → some b = v198.ownBlock → False := fun b h1 h2 => (hb202 b h2).elim (fun e => (fun b h1 h2 => hdis b h2 h1) b h1 e) (fun e => by have := (ho193.blk b h1).2.1; omega)
          have lb222 : ∀ x, some x = v198.ownBlock → (x < H50.bd ∧ W.heap.size ≤ x) ∨ H63.bd ≤ x := fun x q => (hb202 x q).elim (fun e => hlA x e) (fun e => .inr (Nat.le_trans q186 e))
          have a223 : ∀ b', some b' = v198.ownBlock → b' = b101 → False := fun b' h1 h2 => (hb202 b' h1).elim (fun e => a113 b' e h2) (fun e => by have := hb195.lt; omega)
          have ch224 := But.thru2 ch185 hx200 (fun x e => (hlA x e).imp id id)
          have q225 := Nat.le_trans q186 hx200.bd
          have X226 := Ext.thru X187 hx200 (fun b hb => Nat.le_trans o20 (ho192.blk b hb).1.1)
          have X227 := Ext.thru X188 hx200 (fun b hb => Nat.le_trans o21 (ho192.blk b hb).1.1)
          have X228 := Ext.thru X189 hx200 (fun b hb => Nat.le_trans o22 (ho192.blk b hb).1.1)
          have ho231 := ho193.but hx200 (fun b h1 _ h2 => hdis b h2 h1.2) (fun b hb => (ho192.blk b hb).2.2)
          have ho232 := ho183.but hx200 (fun b hb _ e => Nat.lt_irrefl _ (Nat.lt_of_lt_of_le (a178 b e) hb)) (fun b hb => (ho192.blk b hb).2.2)
          have hb233 := hb194.but hx200 (fun e => by have q : H12.bd ≤ _ := (ho192.blk _ e).1.1; omega)
          have hb234 := hb195.but hx200 (fun e => a113 _ e rfl)
          refine .inr (.inr ?_)
          exact (kept_cons (.inr ⟨_, _, _, rfl, rfl, rfl, (RV.of (by intro _ _ h; cases h) (.inl rfl) (fun _ xd => HV.ld rfl va22 (rdc_ext xd (at_cell_add hb234 rfl))))⟩) (kept_cons (.inr ⟨_, _, _, rfl, rfl, rfl, (RV.of (by intro _ _ h; cases h) (.inl rfl) (fun _ xd => HV.fa fl73_1 rfl))⟩) (kept_cons (.inr ⟨_, _, _, rfl, rfl, rfl, (RV.of (by intro _ _ h; cases h) (.inl rfl) (fun _ xd => HV.mv rfl))⟩) (kept_cons (.inl rfl) (kept_cons (.inl rfl) (kept_cons (.inl rfl) kept_nil))))))
        · -- 4 first
          have X235 := Ext.refl H181
          rintro v236 H237 ⟨hx238, ho239, hb240⟩
          have ho241 := ho239.narrow (ok' := fun b => H12.bd ≤ b ∧ some b = v236.ownBlock) kV_flat (fun b q => ⟨(hb240 b q).elim (fun e => (ho192.blk b e).1.1) (fun e => Nat.le_trans X189.bd e), q⟩)
          have d242 : ∀ b, some b = vb.ownBlock → some b = v236.ownBlock → False := fun b h1 h2 => (hb240 b h2).elim (fun e => (fun b h1 h2 => hdis b h2 h1) b h1 e) (fun e => by have := (ho193.blk b h1).2.1; omega)
          have lb243 : ∀ x, some x = v236.ownBlock → (x < H50.bd ∧ W.heap.size ≤ x) ∨ H63.bd ≤ x := fun x q => (hb240 x q).elim (fun e => hlA x e) (fun e => .inr (Nat.le_trans q186 e))
          have a244 : ∀ b', some b' = v236.ownBlock → b' = b101 → False := fun b' h1 h2 => (hb240 b' h1).elim (fun e => a113 b' e h2) (fun e => by have := hb195.lt; omega)
          have ch245 := But.thru2 ch185 hx238 (fun x e => (hlA x e).imp id id)
          have q246 := Nat.le_trans q186 hx238.bd
          have X247 := Ext.thru X187 hx238 (fun b hb => Nat.le_trans o20 (ho192.blk b hb).1.1)
          have X248 := Ext.thru X188 hx238 (fun b hb => Nat.le_trans o21 (ho192.blk b hb).1.1)
          have X249 := Ext.thru X189 hx238 (fun b hb => Nat.le_trans o22 (ho192.blk b hb).1.1)
          have ho253 := ho193.but hx238 (fun b h1 _ h2 => hdis b h2 h1.2) (fun b hb => (ho192.blk b hb).2.2)
          have ho254 := ho183.but hx238 (fun b hb _ e => Nat.lt_irrefl _ (Nat.lt_of_lt_of_le (a178 b e) hb)) (fun b hb => (ho192.blk b hb).2.2)
          have hb255 := hb194.but hx238 (fun e => by have q : H12.bd ≤ _ := (ho192.blk _ e).1.1; omega)
          have hb256 := hb195.but hx238 (fun e => a113 _ e rfl)
          have X257 := Ext.refl H237
          have y258 := hb255.lt
          have y259 := hb256.lt
          have o260 := X247.bd
          have o261 := X248.bd
          have o262 := X249.bd
          have o263 := X257.bd
          have a264 := ho241.ltb
          have a265 := ho253.ltb
          have a266 := ho254.ltb
          have hc271 : z87.2.cells = #[z87.2] := by obtain ⟨A, c, e⟩ := isl99; rw [e]; rfl
          refine Dr.eff 8 _ _ rfl (by intro d h; cases h; exact ⟨rfl, rfl⟩) rfl rfl rfl (EC.of (by intro _ _ h; cases h) (.inl rfl) (WV.bsK (K := kV) (l := [z87.2]) (css := [[z87.2]]) sl45 rfl rfl (by simp [Instr.fill, hc271, kV, rng1]) rfl (segs_cons ⟨rfl, _, isl99⟩ segs_nil))) (fun v H' h => .inl (h.1)) ?_
          rintro v267 H268 ⟨hx269, ho270⟩
          have ch272 := But.trans ch245 (Ext.but hx269 _)
          have q273 := Nat.le_trans q246 hx269.bd
          have X274 := Ext.trans X247 hx269
          have X275 := Ext.trans X248 hx269
          have X276 := Ext.trans X249 hx269
          have X277 := Ext.trans X257 hx269
          have ho278 := ho241.ext hx269
          have ho279 := ho253.ext hx269
          have ho280 := ho254.ext hx269
          have hb281 := hb255.ext hx269
          have hb282 := hb256.ext hx269
          have X284 := Ext.refl H268
          refine Dr.eff 9 _ _ rfl (by intro d h; cases h; exact ⟨rfl, rfl⟩) rfl rfl rfl (EC.of (by intro _ _ h; cases h) (.inl rfl) (WV.apk sl45 rfl rfl ho279 ho270.rd (by simp; omega) (by simp; omega) (fun b hb _ e => Nat.lt_irrefl _ (Nat.lt_of_lt_of_le (a265 b e) hb)))) (fun v H' h => .inr (.inl rfl)) ?_
          rintro v285 H286 ⟨hx287, ho288, hb289⟩
          have ho290 := ho288.narrow (ok' := fun b => H12.bd ≤ b ∧ some b = v285.ownBlock) kV_flat (fun b q => ⟨(hb289 b q).elim (fun e => (ho279.blk b e).1.1) (fun e => Nat.le_trans X276.bd e), q⟩)
          have d291 : ∀ b, some b = v236.ownBlock → some b = v285.ownBlock → False := fun b h1 h2 => (hb289 b h2).elim (fun e => (fun b h1 h2 => d242 b h2 h1) b h1 e) (fun e => by have := (ho278.blk b h1).2.1; omega)
          have lb292 : ∀ x, some x = v285.ownBlock → (x < H50.bd ∧ W.heap.size ≤ x) ∨ H63.bd ≤ x := fun x q => (hb289 x q).elim (fun e => hlB x e) (fun e => .inr (Nat.le_trans q273 e))
          have a293 : ∀ b', some b' = v285.ownBlock → b' = b101 → False := fun b' h1 h2 => (hb289 b' h1).elim (fun e => a114 b' e h2) (fun e => by have := hb282.lt; omega)
          have ch294 := But.thru2 ch272 hx287 (fun x e => (hlB x e).imp id id)
          have q295 := Nat.le_trans q273 hx287.bd
          have X296 := Ext.thru X274 hx287 (fun b hb => Nat.le_trans o20 (ho279.blk b hb).1.1)
          have X297 := Ext.thru X275 hx287 (fun b hb => Nat.le_trans o21 (ho279.blk b hb).1.1)
          have X298 := Ext.thru X276 hx287 (fun b hb => Nat.le_trans o22 (ho279.blk b hb).1.1)
          have ho301 := ho278.but hx287 (fun b h1 _ h2 => (fun b h1 h2 => d242 b h2 h1) b h1.2 h2) (fun b hb => (ho279.blk b hb).2.2)
          have ho302 := ho280.but hx287 (fun b hb _ e => Nat.lt_irrefl _ (Nat.lt_of_lt_of_le (a179 b e) hb)) (fun b hb => (ho279.blk b hb).2.2)
          have ho303 := ho270.but hx287 (fun b hb _ e => Nat.lt_irrefl _ (Nat.lt_of_lt_of_le (a265 b e) hb)) (fun b hb => (ho279.blk b hb).2.2)
          have hb304 := hb281.but hx287 (fun e => by have q : H12.bd ≤ _ := (ho279.blk _ e).1.1; omega)
          have hb305 := hb282.but hx287 (fun e => a114 _ e rfl)
          refine Dr.eff 10 _ _ rfl (by intro d h; cases h; exact ⟨rfl, rfl⟩) rfl rfl rfl (EC.of (by intro _ _ h; cases h) (.inl rfl) (WV.ofHV (HV.as rfl))) (fun v H' h => .inl (h.2 ▸ Ext.refl _)) ?_
          rintro u_ h_ ⟨e1_, e2_⟩
          rw [e1_, e2_]
          clear e1_ e2_ u_ h_
          refine Dr.eff 11 _ _ rfl (by intro d h; cases h; exact ⟨rfl, rfl⟩) rfl rfl rfl (EC.of (by intro _ _ h; cases h) (.inl rfl) (WV.ofHV (HV.as rfl))) (fun v H' h => .inl (h.2 ▸ Ext.refl _)) ?_
          rintro u_ h_ ⟨e1_, e2_⟩
          rw [e1_, e2_]
          clear e1_ e2_ u_ h_
          refine Dr.fin rfl ?_
          refine nrm_blk (nrm_and ?_)
          refine AW.reg ?_
          refine AL.val rfl (.inl rfl) (HV.add rfl rfl (by omega)) ?_
          refine AL.val rfl (.inl rfl) (HV.mv rfl) ?_
          refine AL.nil ?_
          refine nrm_and ?_
          exact ⟨(i + 1, v236, (ka ++ [z87.1]), v285, (kb ++ [z87.2])), ⟨X296, X297, X298, hb304, by omega, by rw [map_snocV (f := Prod.fst) hz89, hka], by rw [map_snocV (f := Prod.snd) hz89, hkb], by simp [hla], by simp [hlb], d291, ho301, ho290, ch294, q295, lb243, lb292, trivial⟩, by first | omega | (dsimp only; omega), ⟨rfl, rfl, rfl, rfl, rfl, rfl, rfl, rfl, trivial⟩⟩
        · -- 8 first
          have X306 := Ext.refl H181
          have y307 := hb194.lt
          have y308 := hb195.lt
          have o309 := X187.bd
          have o310 := X188.bd
          have o311 := X189.bd
          have o312 := X190.bd
          have o313 := X191.bd
          have o314 := X306.bd
          have a315 := ho192.ltb
          have a316 := ho193.ltb
          have a317 := ho183.ltb
          have hc322 : z87.2.cells = #[z87.2] := by obtain ⟨A, c, e⟩ := isl99; rw [e]; rfl
          rintro v318 H319 ⟨hx320, ho321⟩
          have ch323 := But.trans ch185 (Ext.but hx320 _)
          have q324 := Nat.le_trans q186 hx320.bd
          have X325 := Ext.trans X187 hx320
          have X326 := Ext.trans X188 hx320
          have X327 := Ext.trans X189 hx320
          have X328 := Ext.trans X190 hx320
          have X329 := Ext.trans X191 hx320
          have X330 := Ext.trans X306 hx320
          have ho331 := ho192.ext hx320
          have ho332 := ho193.ext hx320
          have ho333 := ho183.ext hx320
          have hb334 := hb194.ext hx320
          have hb335 := hb195.ext hx320
          have X337 := Ext.refl H319
          refine Dr.eff 4 _ _ rfl (by intro d h; cases h; exact ⟨rfl, rfl⟩) rfl rfl rfl (EC.of (by intro _ _ h; cases h) (.inl rfl) (WV.apk sl45 rfl rfl ho331 ho333.rd (by simp; omega) (by simp; omega) (fun b hb _ e => Nat.lt_irrefl _ (Nat.lt_of_lt_of_le (a178 b e) hb)))) ?_ ?_
          · -- kept
            rintro v338 H339 ⟨hx340, ho341, hb342⟩
            have ho343 := ho341.narrow (ok' := fun b => H12.bd ≤ b ∧ some b = v338.ownBlock) kV_flat (fun b q => ⟨(hb342 b q).elim (fun e => (ho331.blk b e).1.1) (fun e => Nat.le_trans X327.bd e), q⟩)
            have d344 : ∀ b, some b = vb.ownBlock → some b = v338.ownBlock → False := fun b h1 h2 => (hb342 b h2).elim (fun e => (fun b h1 h2 => hdis b h2 h1) b h1 e) (fun e => by have := (ho332.blk b h1).2.1; omega)
            have lb345 : ∀ x, some x = v338.ownBlock → (x < H50.bd ∧ W.heap.size ≤ x) ∨ H63.bd ≤ x := fun x q => (hb342 x q).elim (fun e => hlA x e) (fun e => .inr (Nat.le_trans q324 e))
            have a346 : ∀ b', some b' = v338.ownBlock → b' = b101 → False := fun b' h1 h2 => (hb342 b' h1).elim (fun e => a113 b' e h2) (fun e => by have := hb335.lt; omega)
            have ch347 := But.thru2 ch323 hx340 (fun x e => (hlA x e).imp id id)
            have q348 := Nat.le_trans q324 hx340.bd
            have X349 := Ext.thru X325 hx340 (fun b hb => Nat.le_trans o20 (ho331.blk b hb).1.1)
            have X350 := Ext.thru X326 hx340 (fun b hb => Nat.le_trans o21 (ho331.blk b hb).1.1)
            have X351 := Ext.thru X327 hx340 (fun b hb => Nat.le_trans o22 (ho331.blk b hb).1.1)
            have ho356 := ho332.but hx340 (fun b h1 _ h2 => hdis b h2 h1.2) (fun b hb => (ho331.blk b hb).2.2)
            have ho357 := ho333.but hx340 (fun b hb _ e => Nat.lt_irrefl _ (Nat.lt_of_lt_of_le (a178 b e) hb)) (fun b hb => (ho331.blk b hb).2.2)
            have ho358 := ho321.but hx340 (fun b hb _ e => Nat.lt_irrefl _ (Nat.lt_of_lt_of_le (a315 b e) hb)) (fun b hb => (ho331.blk b hb).2.2)
            have hb359 := hb334.but hx340 (fun e => by have q : H12.bd ≤ _ := (ho331.blk _ e).1.1; omega)
            have hb360 := hb335.but hx340 (fun e => a113 _ e rfl)
            refine .inr (.inr ?_)
            exact (kept_cons (.inr ⟨_, _, _, rfl, rfl, rfl, (RV.of (by intro _ _ h; cases h) (.inl rfl) (fun _ xd => HV.ld rfl va22 (rdc_ext xd (at_cell_add hb360 rfl))))⟩) (kept_cons (.inr ⟨_, _, _, rfl, rfl, rfl, (RV.of (by intro _ _ h; cases h) (.inl rfl) (fun _ xd => HV.fa fl73_1 rfl))⟩) (kept_cons (.inr ⟨_, _, _, rfl, rfl, rfl, (RV.of (by intro _ _ h; cases h) (.inl rfl) (fun _ xd => HV.mv rfl))⟩) (kept_cons (.inl rfl) (kept_cons (.inl rfl) (kept_cons (.inl rfl) kept_nil))))))
          rintro v338 H339 ⟨hx340, ho341, hb342⟩
          have ho343 := ho341.narrow (ok' := fun b => H12.bd ≤ b ∧ some b = v338.ownBlock) kV_flat (fun b q => ⟨(hb342 b q).elim (fun e => (ho331.blk b e).1.1) (fun e => Nat.le_trans X327.bd e), q⟩)
          have d361 : ∀ b, some b = vb.ownBlock → some b = v338.ownBlock → False := fun b h1 h2 => (hb342 b h2).elim (fun e => (fun b h1 h2 => hdis b h2 h1) b h1 e) (fun e => by have := (ho332.blk b h1).2.1; omega)
          have lb362 : ∀ x, some x = v338.ownBlock → (x < H50.bd ∧ W.heap.size ≤ x) ∨ H63.bd ≤ x := fun x q => (hb342 x q).elim (fun e => hlA x e) (fun e => .inr (Nat.le_trans q324 e))
          have a363 : ∀ b', some b' = v338.ownBlock → b' = b101 → False := fun b' h1 h2 => (hb342 b' h1).elim (fun e => a113 b' e h2) (fun e => by have := hb335.lt; omega)
          have ch364 := But.thru2 ch323 hx340 (fun x e => (hlA x e).imp id id)
          have q365 := Nat.le_trans q324 hx340.bd
          have X366 := Ext.thru X325 hx340 (fun b hb => Nat.le_trans o20 (ho331.blk b hb).1.1)
          have X367 := Ext.thru X326 hx340 (fun b hb => Nat.le_trans o21 (ho331.blk b hb).1.1)
          have X368 := Ext.thru X327 hx340 (fun b hb => Nat.le_trans o22 (ho331.blk b hb).1.1)
          have ho373 := ho332.but hx340 (fun b h1 _ h2 => hdis b h2 h1.2) (fun b hb => (ho331.blk b hb).2.2)
          have ho374 := ho333.but hx340 (fun b hb _ e => Nat.lt_irrefl _ (Nat.lt_of_lt_of_le (a178 b e) hb)) (fun b hb => (ho331.blk b hb).2.2)
          have ho375 := ho321.but hx340 (fun b hb _ e => Nat.lt_irrefl _ (Nat.lt_of_lt_of_le (a315 b e) hb)) (fun b hb => (ho331.blk b hb).2.2)
          have hb376 := hb334.but hx340 (fun e => by have q : H12.bd ≤ _ := (ho331.blk _ e).1.1; omega)
          have hb377 := hb335.but hx340 (fun e => a113 _ e rfl)
          have X378 := Ext.refl H339
          refine Dr.eff 9 _ _ rfl (by intro d h; cases h; exact ⟨rfl, rfl⟩) rfl rfl rfl (EC.of (by intro _ _ h; cases h) (.inl rfl) (WV.apk sl45 rfl rfl ho373 ho375.rd (by simp; omega) (by simp; omega) (fun b hb _ e => Nat.lt_irrefl _ (Nat.lt_of_lt_of_le (a316 b e) hb)))) (fun v H' h => .inr (.inl rfl)) ?_
          rintro v379 H380 ⟨hx381, ho382, hb383⟩
          have ho384 := ho382.narrow (ok' := fun b => H12.bd ≤ b ∧ some b = v379.ownBlock) kV_flat (fun b q => ⟨(hb383 b q).elim (fun e => (ho373.blk b e).1.1) (fun e => Nat.le_trans X368.bd e), q⟩)
          have d385 : ∀ b, some b = v338.ownBlock → some b = v379.ownBlock → False := fun b h1 h2 => (hb383 b h2).elim (fun e => (fun b h1 h2 => d361 b h2 h1) b h1 e) (fun e => by have := (ho343.blk b h1).2.1; omega)
          have lb386 : ∀ x, some x = v379.ownBlock → (x < H50.bd ∧ W.heap.size ≤ x) ∨ H63.bd ≤ x := fun x q => (hb383 x q).elim (fun e => hlB x e) (fun e => .inr (Nat.le_trans q365 e))
          have a387 : ∀ b', some b' = v379.ownBlock → b' = b101 → False := fun b' h1 h2 => (hb383 b' h1).elim (fun e => a114 b' e h2) (fun e => by have := hb377.lt; omega)
          have ch388 := But.thru2 ch364 hx381 (fun x e => (hlB x e).imp id id)
          have q389 := Nat.le_trans q365 hx381.bd
          have X390 := Ext.thru X366 hx381 (fun b hb => Nat.le_trans o20 (ho373.blk b hb).1.1)
          have X391 := Ext.thru X367 hx381 (fun b hb => Nat.le_trans o21 (ho373.blk b hb).1.1)
          have X392 := Ext.thru X368 hx381 (fun b hb => Nat.le_trans o22 (ho373.blk b hb).1.1)
          have ho394 := ho343.but hx381 (fun b h1 _ h2 => (fun b h1 h2 => d361 b h2 h1) b h1.2 h2) (fun b hb => (ho373.blk b hb).2.2)
          have ho395 := ho374.but hx381 (fun b hb _ e => Nat.lt_irrefl _ (Nat.lt_of_lt_of_le (a179 b e) hb)) (fun b hb => (ho373.blk b hb).2.2)
          have ho396 := ho375.but hx381 (fun b hb _ e => Nat.lt_irrefl _ (Nat.lt_of_lt_of_le (a316 b e) hb)) (fun b hb => (ho373.blk b hb).2.2)
          have hb397 := hb376.but hx381 (fun e => by have q : H12.bd ≤ _ := (ho373.blk _ e).1.1; omega)
          have hb398 := hb377.but hx381 (fun e => a114 _ e rfl)
          refine Dr.eff 10 _ _ rfl (by intro d h; cases h; exact ⟨rfl, rfl⟩) rfl rfl rfl (EC.of (by intro _ _ h; cases h) (.inl rfl) (WV.ofHV (HV.as rfl))) (fun v H' h => .inl (h.2 ▸ Ext.refl _)) ?_
          rintro u_ h_ ⟨e1_, e2_⟩
          rw [e1_, e2_]
          clear e1_ e2_ u_ h_
          refine Dr.eff 11 _ _ rfl (by intro d h; cases h; exact ⟨rfl, rfl⟩) rfl rfl rfl (EC.of (by intro _ _ h; cases h) (.inl rfl) (WV.ofHV (HV.as rfl))) (fun v H' h => .inl (h.2 ▸ Ext.refl _)) ?_
          rintro u_ h_ ⟨e1_, e2_⟩
          rw [e1_, e2_]
          clear e1_ e2_ u_ h_
          refine Dr.fin rfl ?_
          refine nrm_blk (nrm_and ?_)
          refine AW.reg ?_
          refine AL.val rfl (.inl rfl) (HV.add rfl rfl (by omega)) ?_
          refine AL.val rfl (.inl rfl) (HV.mv rfl) ?_
          refine AL.nil ?_
          refine nrm_and ?_
          exact ⟨(i + 1, v338, (ka ++ [z87.1]), v379, (kb ++ [z87.2])), ⟨X390, X391, X392, hb397, by omega, by rw [map_snocV (f := Prod.fst) hz89, hka], by rw [map_snocV (f := Prod.snd) hz89, hkb], by simp [hla], by simp [hlb], d385, ho394, ho384, ch388, q389, lb362, lb386, trivial⟩, by first | omega | (dsimp only; omega), ⟨rfl, rfl, rfl, rfl, rfl, rfl, rfl, rfl, trivial⟩⟩
      · -- 8 first
        have X399 := Ext.refl H126
        have y400 := hb138.lt
        have y401 := hb139.lt
        have o402 := X131.bd
        have o403 := X132.bd
        have o404 := X133.bd
        have o405 := X134.bd
        have o406 := X399.bd
        have a407 := ho136.ltb
        have a408 := ho137.ltb
        have hc413 : z87.2.cells = #[z87.2] := by obtain ⟨A, c, e⟩ := isl99; rw [e]; rfl
        rintro v409 H410 ⟨hx411, ho412⟩
        have ch414 := But.trans ch129 (Ext.but hx411 _)
        have q415 := Nat.le_trans q130 hx411.bd
        have X416 := Ext.trans X131 hx411
        have X417 := Ext.trans X132 hx411
        have X418 := Ext.trans X133 hx411
        have X419 := Ext.trans X134 hx411
        have X420 := Ext.trans X399 hx411
        have ho421 := ho136.ext hx411
        have ho422 := ho137.ext hx411
        have hb423 := hb138.ext hx411
        have hb424 := hb139.ext hx411
        have X426 := Ext.refl H410
        have y427 := hb423.lt
        have y428 := hb424.lt
        have o429 := X416.bd
        have o430 := X417.bd
        have o431 := X418.bd
        have o432 := X419.bd
        have o433 := X420.bd
        have o434 := X426.bd
        have a435 := ho421.ltb
        have a436 := ho422.ltb
        have a437 := ho412.ltb
        have hc442 : z87.1.cells = #[z87.1] := by obtain ⟨A, c, e⟩ := isl97; rw [e]; rfl
        refine Dr.eff 3 _ _ rfl (by intro d h; cases h; exact ⟨rfl, rfl⟩) rfl rfl rfl (EC.of (by intro _ _ h; cases h) (.inl rfl) (WV.bsK (K := kV) (l := [z87.1]) (css := [[z87.1]]) sl45 rfl rfl (by simp [Instr.fill, hc442, kV, rng1]) rfl (segs_cons ⟨rfl, _, isl97⟩ segs_nil))) (fun v H' h => .inl (h.1)) ?_
        rintro v438 H439 ⟨hx440, ho441⟩
        have ch443 := But.trans ch414 (Ext.but hx440 _)
        have q444 := Nat.le_trans q415 hx440.bd
        have X445 := Ext.trans X416 hx440
        have X446 := Ext.trans X417 hx440
        have X447 := Ext.trans X418 hx440
        have X448 := Ext.trans X419 hx440
        have X449 := Ext.trans X420 hx440
        have X450 := Ext.trans X426 hx440
        have ho451 := ho421.ext hx440
        have ho452 := ho422.ext hx440
        have ho453 := ho412.ext hx440
        have hb454 := hb423.ext hx440
        have hb455 := hb424.ext hx440
        have X457 := Ext.refl H439
        refine Dr.eff 4 _ _ rfl (by intro d h; cases h; exact ⟨rfl, rfl⟩) rfl rfl rfl (EC.of (by intro _ _ h; cases h) (.inl rfl) (WV.apk sl45 rfl rfl ho451 ho441.rd (by simp; omega) (by simp; omega) (fun b hb _ e => Nat.lt_irrefl _ (Nat.lt_of_lt_of_le (a435 b e) hb)))) ?_ ?_
        · -- kept
          rintro v458 H459 ⟨hx460, ho461, hb462⟩
          have ho463 := ho461.narrow (ok' := fun b => H12.bd ≤ b ∧ some b = v458.ownBlock) kV_flat (fun b q => ⟨(hb462 b q).elim (fun e => (ho451.blk b e).1.1) (fun e => Nat.le_trans X447.bd e), q⟩)
          have d464 : ∀ b, some b = vb.ownBlock → some b = v458.ownBlock → False := fun b h1 h2 => (hb462 b h2).elim (fun e => (fun b h1 h2 => hdis b h2 h1) b h1 e) (fun e => by have := (ho452.blk b h1).2.1; omega)
          have lb465 : ∀ x, some x = v458.ownBlock → (x < H50.bd ∧ W.heap.size ≤ x) ∨ H63.bd ≤ x := fun x q => (hb462 x q).elim (fun e => hlA x e) (fun e => .inr (Nat.le_trans q444 e))
          have a466 : ∀ b', some b' = v458.ownBlock → b' = b101 → False := fun b' h1 h2 => (hb462 b' h1).elim (fun e => a113 b' e h2) (fun e => by have := hb455.lt; omega)
          have ch467 := But.thru2 ch443 hx460 (fun x e => (hlA x e).imp id id)
          have q468 := Nat.le_trans q444 hx460.bd
          have X469 := Ext.thru X445 hx460 (fun b hb => Nat.le_trans o20 (ho451.blk b hb).1.1)
          have X470 := Ext.thru X446 hx460 (fun b hb => Nat.le_trans o21 (ho451.blk b hb).1.1)
          have X471 := Ext.thru X447 hx460 (fun b hb => Nat.le_trans o22 (ho451.blk b hb).1.1)
          have ho476 := ho452.but hx460 (fun b h1 _ h2 => hdis b h2 h1.2) (fun b hb => (ho451.blk b hb).2.2)
          have ho477 := ho453.but hx460 (fun b hb _ e => Nat.lt_irrefl _ (Nat.lt_of_lt_of_le (a407 b e) hb)) (fun b hb => (ho451.blk b hb).2.2)
          have ho478 := ho441.but hx460 (fun b hb _ e => Nat.lt_irrefl _ (Nat.lt_of_lt_of_le (a435 b e) hb)) (fun b hb => (ho451.blk b hb).2.2)
          have hb479 := hb454.but hx460 (fun e => by have q : H12.bd ≤ _ := (ho451.blk _ e).1.1; omega)
          have hb480 := hb455.but hx460 (fun e => a113 _ e rfl)
          refine .inr (.inr ?_)
          exact (kept_cons (.inr ⟨_, _, _, rfl, rfl, rfl, (RV.of (by intro _ _ h; cases h) (.inl rfl) (fun _ xd => HV.ld rfl va22 (rdc_ext xd (at_cell_add hb480 rfl))))⟩) (kept_cons (.inr ⟨_, _, _, rfl, rfl, rfl, (RV.of (by intro _ _ h; cases h) (.inl rfl) (fun _ xd => HV.fa fl73_1 rfl))⟩) (kept_cons (.inr ⟨_, _, _, rfl, rfl, rfl, (RV.of (by intro _ _ h; cases h) (.inl rfl) (fun _ xd => HV.mv rfl))⟩) (kept_cons (.inl rfl) (kept_cons (.inl rfl) (kept_cons (.inl rfl) kept_nil))))))
        rintro v458 H459 ⟨hx460, ho461, hb462⟩
        have ho463 := ho461.narrow (ok' := fun b => H12.bd ≤ b ∧ some b = v458.ownBlock) kV_flat (fun b q => ⟨(hb462 b q).elim (fun e => (ho451.blk b e).1.1) (fun e => Nat.le_trans X447.bd e), q⟩)
        have d481 : ∀ b, some b = vb.ownBlock → some b = v458.ownBlock → False := fun b h1 h2 => (hb462 b h2).elim (fun e => (fun b h1 h2 => hdis b h2 h1) b h1 e) (fun e => by have := (ho452.blk b h1).2.1; omega)
        have lb482 : ∀ x, some x = v458.ownBlock → (x < H50.bd ∧ W.heap.size ≤ x) ∨ H63.bd ≤ x := fun x q => (hb462 x q).elim (fun e => hlA x e) (fun e => .inr (Nat.le_trans q444 e))
        have a483 : ∀ b', some b' = v458.ownBlock → b' = b101 → False := fun b' h1 h2 => (hb462 b' h1).elim (fun e => a113 b' e h2) (fun e => by have := hb455.lt; omega)
        have ch484 := But.thru2 ch443 hx460 (fun x e => (hlA x e).imp id id)
        have q485 := Nat.le_trans q444 hx460.bd
        have X486 := Ext.thru X445 hx460 (fun b hb => Nat.le_trans o20 (ho451.blk b hb).1.1)
        have X487 := Ext.thru X446 hx460 (fun b hb => Nat.le_trans o21 (ho451.blk b hb).1.1)
        have X488 := Ext.thru X447 hx460 (fun b hb => Nat.le_trans o22 (ho451.blk b hb).1.1)
        have ho493 := ho452.but hx460 (fun b h1 _ h2 => hdis b h2 h1.2) (fun b hb => (ho451.blk b hb).2.2)
        have ho494 := ho453.but hx460 (fun b hb _ e => Nat.lt_irrefl _ (Nat.lt_of_lt_of_le (a407 b e) hb)) (fun b hb => (ho451.blk b hb).2.2)
        have ho495 := ho441.but hx460 (fun b hb _ e => Nat.lt_irrefl _ (Nat.lt_of_lt_of_le (a435 b e) hb)) (fun b hb => (ho451.blk b hb).2.2)
        have hb496 := hb454.but hx460 (fun e => by have q : H12.bd ≤ _ := (ho451.blk _ e).1.1; omega)
        have hb497 := hb455.but hx460 (fun e => a113 _ e rfl)
        have X498 := Ext.refl H459
        refine Dr.eff 9 _ _ rfl (by intro d h; cases h; exact ⟨rfl, rfl⟩) rfl rfl rfl (EC.of (by intro _ _ h; cases h) (.inl rfl) (WV.apk sl45 rfl rfl ho493 ho494.rd (by simp; omega) (by simp; omega) (fun b hb _ e => Nat.lt_irrefl _ (Nat.lt_of_lt_of_le (a408 b e) hb)))) (fun v H' h => .inr (.inl rfl)) ?_
        rintro v499 H500 ⟨hx501, ho502, hb503⟩
        have ho504 := ho502.narrow (ok' := fun b => H12.bd ≤ b ∧ some b = v499.ownBlock) kV_flat (fun b q => ⟨(hb503 b q).elim (fun e => (ho493.blk b e).1.1) (fun e => Nat.le_trans X488.bd e), q⟩)
        have d505 : ∀ b, some b = v458.ownBlock → some b = v499.ownBlock → False := fun b h1 h2 => (hb503 b h2).elim (fun e => (fun b h1 h2 => d481 b h2 h1) b h1 e) (fun e => by have := (ho463.blk b h1).2.1; omega)
        have lb506 : ∀ x, some x = v499.ownBlock → (x < H50.bd ∧ W.heap.size ≤ x) ∨ H63.bd ≤ x := fun x q => (hb503 x q).elim (fun e => hlB x e) (fun e => .inr (Nat.le_trans q485 e))
        have a507 : ∀ b', some b' = v499.ownBlock → b' = b101 → False := fun b' h1 h2 => (hb503 b' h1).elim (fun e => a114 b' e h2) (fun e => by have := hb497.lt; omega)
        have ch508 := But.thru2 ch484 hx501 (fun x e => (hlB x e).imp id id)
        have q509 := Nat.le_trans q485 hx501.bd
        have X510 := Ext.thru X486 hx501 (fun b hb => Nat.le_trans o20 (ho493.blk b hb).1.1)
        have X511 := Ext.thru X487 hx501 (fun b hb => Nat.le_trans o21 (ho493.blk b hb).1.1)
        have X512 := Ext.thru X488 hx501 (fun b hb => Nat.le_trans o22 (ho493.blk b hb).1.1)
        have ho514 := ho463.but hx501 (fun b h1 _ h2 => (fun b h1 h2 => d481 b h2 h1) b h1.2 h2) (fun b hb => (ho493.blk b hb).2.2)
        have ho515 := ho494.but hx501 (fun b hb _ e => Nat.lt_irrefl _ (Nat.lt_of_lt_of_le (a408 b e) hb)) (fun b hb => (ho493.blk b hb).2.2)
        have ho516 := ho495.but hx501 (fun b hb _ e => Nat.lt_irrefl _ (Nat.lt_of_lt_of_le (a436 b e) hb)) (fun b hb => (ho493.blk b hb).2.2)
        have hb517 := hb496.but hx501 (fun e => by have q : H12.bd ≤ _ := (ho493.blk _ e).1.1; omega)
        have hb518 := hb497.but hx501 (fun e => a114 _ e rfl)
        refine Dr.eff 10 _ _ rfl (by intro d h; cases h; exact ⟨rfl, rfl⟩) rfl rfl rfl (EC.of (by intro _ _ h; cases h) (.inl rfl) (WV.ofHV (HV.as rfl))) (fun v H' h => .inl (h.2 ▸ Ext.refl _)) ?_
        rintro u_ h_ ⟨e1_, e2_⟩
        rw [e1_, e2_]
        clear e1_ e2_ u_ h_
        refine Dr.eff 11 _ _ rfl (by intro d h; cases h; exact ⟨rfl, rfl⟩) rfl rfl rfl (EC.of (by intro _ _ h; cases h) (.inl rfl) (WV.ofHV (HV.as rfl))) (fun v H' h => .inl (h.2 ▸ Ext.refl _)) ?_
        rintro u_ h_ ⟨e1_, e2_⟩
        rw [e1_, e2_]
        clear e1_ e2_ u_ h_
        refine Dr.fin rfl ?_
        refine nrm_blk (nrm_and ?_)
        refine AW.reg ?_
        refine AL.val rfl (.inl rfl) (HV.add rfl rfl (by omega)) ?_
        refine AL.val rfl (.inl rfl) (HV.mv rfl) ?_
        refine AL.nil ?_
        refine nrm_and ?_
        exact ⟨(i + 1, v458, (ka ++ [z87.1]), v499, (kb ++ [z87.2])), ⟨X510, X511, X512, hb517, by omega, by rw [map_snocV (f := Prod.fst) hz89, hka], by rw [map_snocV (f := Prod.snd) hz89, hkb], by simp [hla], by simp [hlb], d505, ho514, ho504, ch508, q509, lb482, lb506, trivial⟩, by first | omega | (dsimp only; omega), ⟨rfl, rfl, rfl, rfl, rfl, rfl, rfl, rfl, trivial⟩⟩
    · -- else
      refine AW.exit ?_
      refine ex_and (ex_and (ex_blk ?_))
      refine nrm_and ?_
      refine AW.rs ?_
      refine AL.val rfl (.inl rfl) (HV.mv rfl) ?_
      refine AL.val rfl (.inl rfl) (HV.mv rfl) ?_
      refine AL.val rfl (.inl rfl) (HV.as rfl) ?_
      refine AL.val rfl (.inl rfl) (HV.as rfl) ?_
      refine AL.val rfl (.inl rfl) (HV.as rfl) ?_
      refine AL.nx ?_
      refine AW.ret ?_
      refine post_three rfl rfl rfl rfl ?_ (.inr rfl)
      have hfi : i = pr.length := (by omega); rw [hfi, List.take_length] at hka hkb; rw [hka] at hoA; rw [hkb] at hoB; obtain ⟨lb, hRA, hRB⟩ := views_two h0c hprl hpr hchv ((hoA.okk (ok' := fun b => H.bd ≤ b ∧ some b = va.ownBlock) (fun b hb _ => ⟨Nat.le_trans o20 hb.1, hb.2⟩))) ((hoB.okk (ok' := fun b => H.bd ≤ b ∧ some b = vb.ownBlock) (fun b hb _ => ⟨Nat.le_trans o20 hb.1, hb.2⟩))) hlA hlB hdis; exact ⟨⟨_, _, _, _, lb, by rw [hcd], (if_pos hcd).symm, (if_pos hcd).symm, hRA, hRB⟩, X79⟩

set_option maxRecDepth 100000 in
theorem markS_ok {v : Value} {l : List Int} {ok : Nat → Prop} (q : Int) (ho : OwnK kI 2 W H ok v l) (hq : 0 ≤ q ∧ q + l.length ≤ 1000000000000000) : ACalls Try.prog W 31 #[v, .int .i64 q] H (fun r H' => ∃ k, r = .int .i64 (q + (l.length : Int)) ∧ k.length = l.length ∧ (∀ j : Nat, j < k.length → k.getD j 0 = q + (j : Int)) ∧ But (fun b => some b = v.ownBlock) H H' ∧ OwnK kI 2 W H' ok v k) := by
  refine ACalls.of (args := [v, .int .i64 q]) Try.func31 rfl rfl ?_
  have X0 := Ext.refl H
  have B0 := But.refl (fun b => some b = v.ownBlock) H
  have hmL := ho.rd.max
  refine AW.rs ?_
  refine AL.val rfl (.inl rfl) (HV.as rfl) ?_
  refine AL.nx ?_
  refine AW.seq ?_
  refine AW.rs ?_
  refine AL.val rfl (.inl rfl) (HV.as rfl) ?_
  refine AL.nx ?_
  refine AW.block ?_
  refine AW.loop (σ := Nat × Int × List Int) (fun ⟨i, p, k⟩ => [(0, v), (4, .int .i64 0), (0, v), (1, .int .i64 p), (5, .int .i64 (i : Int))]) (fun ⟨i, p, k⟩ H' => i ≤ l.length ∧ p = q + i ∧ k.length = l.length ∧ (∀ j : Nat, j < i → k.getD j 0 = q + (j : Int)) ∧ OwnK kI 2 W H' ok v k ∧ But (fun b => some b = v.ownBlock) H H' ∧ True) (fun ⟨i, p, k⟩ => l.length - i) (0, q, l) ⟨Nat.zero_le _, by omega, rfl, fun j hj => absurd hj (Nat.not_lt_zero _), ho, B0, trivial⟩ ⟨rfl, rfl, rfl, rfl, rfl, trivial⟩ ?_
  rintro ⟨i, p, k⟩ H1 ⟨hi, hp, hk, he, hoL, hB, _⟩
  refine AW.seq ?_
  refine AW.rs ?_
  refine AL.val rfl (.inl rfl) (HV.mv rfl) ?_
  refine AL.val rfl (.inl rfl) (HV.mv rfl) ?_
  refine AL.val rfl (.inl rfl) (HV.len Try.underlying22 rfl hoL.rd.isSl) ?_
  refine AL.val rfl (.inl rfl) (HV.lti rfl rfl) ?_
  refine AL.nx ?_
  refine AW.ifd rfl (fun c2 => ?_) (fun c2 => ?_)
  · -- then
    refine AW.skip ?_
    refine nrm_and ?_
    refine AW.seq ?_
    refine AW.block ?_
    refine AW.rs ?_
    refine AL.val rfl (.inl rfl) (HV.mv rfl) ?_
    refine AL.val rfl (.inl rfl) (HV.mv rfl) ?_
    refine AL.val rfl (.inl rfl) (HV.mv rfl) ?_
    obtain ⟨g3, z4, cs5, hz6, hK7, hC8, hg9, hP10⟩ := OwnK.ix (q := (i : Int)) hoL sl22 (by omega) (by omega)
    have X11 := Ext.refl H1
    obtain rfl : cs5 = [.int .i64 z4] := hK7
    refine AL.val rfl (.inl rfl) (hP10 rfl rfl) ?_
    refine AL.w0 (.inl rfl) (WV.stK (okx := fun _ => False) (x' := p) hoL hg9 rfl rfl va2 (by omega) rfl (fun _ h => h.elim)) ?_
    rintro _ H12 ⟨hx13, ho14⟩
    have B16 := But.trans hB hx13
    have ho17 := ho14.okk (ok' := ok) (fun b hb _ => hb.elim id False.elim)
    refine AL.nx ?_
    refine AW.reg ?_
    refine AL.val rfl (.inl rfl) (HV.mv rfl) ?_
    refine AL.val rfl (.inl rfl) (HV.add rfl rfl (by omega)) ?_
    refine AL.val rfl (.inl rfl) (HV.as rfl) ?_
    refine AL.nil ?_
    refine nrm_blk (nrm_and ?_)
    refine AW.reg ?_
    refine AL.val rfl (.inl rfl) (HV.mv rfl) ?_
    refine AL.val rfl (.inl rfl) (HV.add rfl rfl (by omega)) ?_
    refine AL.val rfl (.inl rfl) (HV.as rfl) ?_
    refine AL.nil ?_
    refine nrm_and ?_
    exact ⟨(i + 1, p + 1, (k.set ((i : Int) : Int).toNat p)), ⟨by omega, by omega, by simp [hk], mark_step he (by omega) hp, ho17, B16, trivial⟩, by first | omega | (dsimp only; omega), ⟨rfl, rfl, rfl, rfl, rfl, trivial⟩⟩
  · -- else
    refine AW.exit ?_
    refine ex_and (ex_and (ex_blk ?_))
    refine nrm_and ?_
    refine AW.rs ?_
    refine AL.val rfl (.inl rfl) (HV.mv rfl) ?_
    refine AL.val rfl (.inl rfl) (HV.as rfl) ?_
    refine AL.nx ?_
    refine AW.ret ?_
    refine post_one rfl rfl ?_ (.inr rfl)
    exact ⟨k, congrArg (Value.int .i64) (by omega), hk, fun j hj => he j (by omega), hB, hoL⟩

set_option maxRecDepth 100000 in
theorem heldS_ok {v : Value} {l : List Int} {ok : Nat → Prop} (q : Int) (hr : RdK kI W H ok v l) (hq : 0 ≤ q ∧ q + l.length ≤ 1000000000000000) (hl : (∀ j : Nat, j < l.length → l.getD j 0 = q + (j : Int))) : ACalls Try.prog W 63 #[v, .int .i64 q] H (fun r H' => r = .int .i64 (q + (l.length : Int)) ∧ Ext H H') := by
  refine ACalls.of (args := [v, .int .i64 q]) Try.func63 rfl rfl ?_
  have X0 := Ext.refl H
  have hm1 := hr.max
  refine AW.rs ?_
  refine AL.val rfl (.inl rfl) (HV.as rfl) ?_
  refine AL.nx ?_
  refine AW.seq ?_
  refine AW.rs ?_
  refine AL.val rfl (.inl rfl) (HV.as rfl) ?_
  refine AL.nx ?_
  refine AW.block ?_
  refine AW.loop (σ := Nat × Int) (fun ⟨i, p⟩ => [(0, v), (1, .int .i64 p), (5, .int .i64 (i : Int))]) (fun ⟨i, p⟩ H' => Ext H H' ∧ i ≤ l.length ∧ p = q + i ∧ True) (fun ⟨i, p⟩ => l.length - i) (0, q) ⟨X0, Nat.zero_le _, by omega, trivial⟩ ⟨rfl, rfl, rfl, trivial⟩ ?_
  rintro ⟨i, p⟩ H2 ⟨X3, hi, hp, _⟩
  refine AW.seq ?_
  refine AW.rs ?_
  refine AL.val rfl (.inl rfl) (HV.mv rfl) ?_
  refine AL.val rfl (.inl rfl) (HV.mv rfl) ?_
  refine AL.val rfl (.inl rfl) (HV.len Try.underlying22 rfl hr.isSl) ?_
  refine AL.val rfl (.inl rfl) (HV.lti rfl rfl) ?_
  refine AL.nx ?_
  refine AW.ifd rfl (fun c4 => ?_) (fun c4 => ?_)
  · -- then
    refine AW.skip ?_
    refine nrm_and ?_
    refine AW.seq ?_
    refine AW.block ?_
    refine AW.seq ?_
    refine AW.rs ?_
    refine AL.val rfl (.inl rfl) (HV.mv rfl) ?_
    refine AL.val rfl (.inl rfl) (HV.mv rfl) ?_
    obtain ⟨p5, z6, cs7, hz8, hK9, hC10, hP11⟩ := RdK.ix (q := (i : Int)) hr sl22 (by omega) (by omega)
    obtain rfl : cs7 = [.int .i64 z6] := hK9
    refine AL.val rfl (.inl rfl) (hP11 rfl rfl) ?_
    refine AL.val rfl (.inl rfl) (HV.ld rfl va2 (cells_first (hC10.ext X3) rfl)) ?_
    refine AL.val rfl (.inl rfl) (HV.mv rfl) ?_
    refine AL.val rfl (.inl rfl) (HV.nei rfl rfl) ?_
    refine AL.nx ?_
    refine AW.ifd rfl (fun c12 => ?_) (fun c12 => ?_)
    · -- then
      refine AW.rs ?_
      refine AL.val rfl (.inl rfl) (HV.as rfl) ?_
      refine AL.nx ?_
      refine AW.ret ?_
      refine ret_and (ret_blk (ret_and (ret_and (ret_blk (ret_and ?_)))))
      refine post_one rfl rfl ?_ (.inr rfl)
      exact absurd (by have := hl i (by omega); rw [gd hz8 rfl] at this; omega) c12
    · -- else
      refine AW.skip ?_
      refine nrm_and ?_
      refine AW.reg ?_
      refine AL.val rfl (.inl rfl) (HV.mv rfl) ?_
      refine AL.val rfl (.inl rfl) (HV.add rfl rfl (by omega)) ?_
      refine AL.val rfl (.inl rfl) (HV.as rfl) ?_
      refine AL.nil ?_
      refine nrm_blk (nrm_and ?_)
      refine AW.reg ?_
      refine AL.val rfl (.inl rfl) (HV.mv rfl) ?_
      refine AL.val rfl (.inl rfl) (HV.add rfl rfl (by omega)) ?_
      refine AL.val rfl (.inl rfl) (HV.as rfl) ?_
      refine AL.nil ?_
      refine nrm_and ?_
      exact ⟨(i + 1, p + 1), ⟨X3, by omega, by omega, trivial⟩, by first | omega | (dsimp only; omega), ⟨rfl, rfl, rfl, trivial⟩⟩
  · -- else
    refine AW.exit ?_
    refine ex_and (ex_and (ex_blk ?_))
    refine nrm_and ?_
    refine AW.rs ?_
    refine AL.val rfl (.inl rfl) (HV.mv rfl) ?_
    refine AL.val rfl (.inl rfl) (HV.as rfl) ?_
    refine AL.nx ?_
    refine AW.ret ?_
    refine post_one rfl rfl ?_ (.inr rfl)
    exact ⟨congrArg (Value.int .i64) (by omega), X3⟩

set_option maxRecDepth 100000 in
theorem markSS2_ok {v : Value} {l : List (List Int)} {ok : Nat → Prop} (ho : OwnD (kO 2 kI) 22 W H ok v l) (hl : (l.length ≤ 1048576 ∧ ∀ x ∈ l, x.length ≤ 1048576)) (q : Int) (hq : 0 ≤ q ∧ q ≤ 4194304) : ACalls Try.prog W 32 #[v, .int .i64 q] H (fun r H' => (∃ k, r = .int .i64 (q + offs l l.length) ∧ sameLen k l ∧ heldL q l k l.length ∧ OwnD (kO 2 kI) 22 W H' ok v k) ∧ But ok H H') := by
  refine ACalls.of (args := [v, .int .i64 q]) Try.func32 rfl rfl ?_
  have X0 := Ext.refl H
  have B0 := But.refl ok H
  have hmL := ho.rd.max
  refine AW.rs ?_
  refine AL.val rfl (.inl rfl) (HV.as rfl) ?_
  refine AL.nx ?_
  refine AW.seq ?_
  refine AW.rs ?_
  refine AL.val rfl (.inl rfl) (HV.as rfl) ?_
  refine AL.nx ?_
  refine AW.block ?_
  refine AW.loop (σ := Nat × Int × List (List Int)) (fun ⟨i, p, k⟩ => [(0, v), (4, .int .i64 0), (0, v), (1, .int .i64 p), (5, .int .i64 (i : Int))]) (fun ⟨i, p, k⟩ H' => i ≤ l.length ∧ p = q + offs l i ∧ sameLen k l ∧ heldL q l k i ∧ OwnD (kO 2 kI) 22 W H' ok v k ∧ But ok H H' ∧ True) (fun ⟨i, p, k⟩ => l.length - i) (0, q, l) ⟨Nat.zero_le _, by simp [offs], sameLen.refl l, fun i hi => absurd hi (Nat.not_lt_zero _), ho, B0, trivial⟩ ⟨rfl, rfl, rfl, rfl, rfl, trivial⟩ ?_
  rintro ⟨i, p, k⟩ H1 ⟨hi, hp, hk, hh, hoL, hB, _⟩
  have hkl : k.length = l.length := hk.1
  have hof := offs_le (B := 1048576) hl.2 i (by omega)
  refine AW.seq ?_
  refine AW.rs ?_
  refine AL.val rfl (.inl rfl) (HV.mv rfl) ?_
  refine AL.val rfl (.inl rfl) (HV.mv rfl) ?_
  refine AL.val rfl (.inl rfl) (HV.len Try.underlying45 rfl (rd_ofO hoL.rd).isSl) ?_
  refine AL.val rfl (.inl rfl) (HV.lti rfl rfl) ?_
  refine AL.nx ?_
  refine AW.ifd rfl (fun c2 => ?_) (fun c2 => ?_)
  · -- then
    refine AW.skip ?_
    refine nrm_and ?_
    refine AW.seq ?_
    refine AW.block ?_
    refine AW.reg ?_
    refine AL.val rfl (.inl rfl) (HV.mv rfl) ?_
    refine AL.val rfl (.inl rfl) (HV.mv rfl) ?_
    obtain ⟨g3, z4, cs5, hz6, hK7, hC8, hg9, hP10⟩ := OwnK.ix (q := (i : Int)) hoL.own sl45 (by omega) (by omega)
    have X11 := Ext.refl H1
    obtain ⟨v12, rfl, hr13⟩ := hK7
    have hO14 := hr13
    replace hr13 := hr13.rd
    have hm15 := hr13.max
    refine AL.val rfl (.inl rfl) (hP10 rfl rfl) ?_
    refine AL.val rfl (.inl rfl) (HV.ld rfl va22 (cells_first hC8 rfl)) ?_
    refine AL.val rfl (.inl rfl) (HV.mv rfl) ?_
    refine AL.w rfl (.inl rfl) (WV.call fn31 rfl (markS_ok p hO14 (by have q1 := hl.2 (l.getD i []) (by have e : l.getD i [] = l[i]'(by omega) := (by simp [show i < l.length by omega]); rw [e]; exact List.getElem_mem _); rw [← hk.2 i, (gd hz6 rfl : k.getD i [] = z4)] at q1; omega))) ?_
    rintro _ H16 ⟨k17, rfl, hk18, hh19, hx20, ho21⟩
    have hd22 := OwnD.mark (i := ((i : Int) : Int).toNat) kI_flat hoL hg9 (Cells.one hC8) (by omega) hx20 ho21
    have B24 := But.trans hB (But.mono hx20 hd22.2)
    have ho25 := hd22.1
    refine AL.val rfl (.inl rfl) (HV.as rfl) ?_
    refine AL.nil ?_
    refine nrm_blk (nrm_and ?_)
    refine AW.reg ?_
    refine AL.val rfl (.inl rfl) (HV.mv rfl) ?_
    refine AL.val rfl (.inl rfl) (HV.add rfl rfl (by omega)) ?_
    refine AL.val rfl (.inl rfl) (HV.as rfl) ?_
    refine AL.nil ?_
    refine nrm_and ?_
    exact ⟨(i + 1, (p + (z4.length : Int)), (k.set ((i : Int) : Int).toNat k17)), ⟨by omega, by rw [offs_succ (by omega), ← hk.2 i, (gd hz6 rfl : k.getD i [] = z4)]; omega, sameLen.set hk hz6 hk18, heldL.step hh hz6 hp hh19, ho25, B24, trivial⟩, by first | omega | (dsimp only; omega), ⟨rfl, rfl, rfl, rfl, rfl, trivial⟩⟩
  · -- else
    refine AW.exit ?_
    refine ex_and (ex_and (ex_blk ?_))
    refine nrm_and ?_
    refine AW.rs ?_
    refine AL.val rfl (.inl rfl) (HV.mv rfl) ?_
    refine AL.val rfl (.inl rfl) (HV.as rfl) ?_
    refine AL.nx ?_
    refine AW.ret ?_
    refine post_one rfl rfl ?_ (.inr rfl)
    exact ⟨⟨k, by obtain rfl : i = l.length := (by omega); exact congrArg (Value.int .i64) hp, hk, by obtain rfl : i = l.length := (by omega); exact hh, hoL⟩, hB⟩

set_option maxRecDepth 100000 in
theorem heldSS_ok {v : Value} {k l : List (List Int)} {ok : Nat → Prop} (q : Int) (hr : RdK (kR kI) W H ok v k) (hq : 0 ≤ q ∧ q ≤ 4194304) (hl : (l.length ≤ 1048576 ∧ ∀ x ∈ l, x.length ≤ 1048576)) (hk : sameLen k l) (hh : heldL q l k l.length) : ACalls Try.prog W 33 #[v, .int .i64 q] H (fun r H' => r = .int .i64 (q + offs l l.length) ∧ Ext H H') := by
  refine ACalls.of (args := [v, .int .i64 q]) Try.func33 rfl rfl ?_
  have X0 := Ext.refl H
  have hm1 := hr.max
  have hkl : k.length = l.length := hk.1
  refine AW.rs ?_
  refine AL.val rfl (.inl rfl) (HV.as rfl) ?_
  refine AL.nx ?_
  refine AW.seq ?_
  refine AW.rs ?_
  refine AL.val rfl (.inl rfl) (HV.as rfl) ?_
  refine AL.nx ?_
  refine AW.block ?_
  refine AW.loop (σ := Nat × Int) (fun ⟨i, p⟩ => [(0, v), (1, .int .i64 p), (5, .int .i64 (i : Int))]) (fun ⟨i, p⟩ H' => Ext H H' ∧ i ≤ l.length ∧ p = q + offs l i ∧ True) (fun ⟨i, p⟩ => l.length - i) (0, q) ⟨X0, Nat.zero_le _, by simp [offs], trivial⟩ ⟨rfl, rfl, rfl, trivial⟩ ?_
  rintro ⟨i, p⟩ H2 ⟨X3, hi, hp, _⟩
  have hof := offs_le (B := 1048576) hl.2 i (by omega)
  refine AW.seq ?_
  refine AW.rs ?_
  refine AL.val rfl (.inl rfl) (HV.mv rfl) ?_
  refine AL.val rfl (.inl rfl) (HV.mv rfl) ?_
  refine AL.val rfl (.inl rfl) (HV.len Try.underlying45 rfl hr.isSl) ?_
  refine AL.val rfl (.inl rfl) (HV.lti rfl rfl) ?_
  refine AL.nx ?_
  refine AW.ifd rfl (fun c4 => ?_) (fun c4 => ?_)
  · -- then
    refine AW.skip ?_
    refine nrm_and ?_
    refine AW.seq ?_
    refine AW.block ?_
    refine AW.rs ?_
    refine AL.val rfl (.inl rfl) (HV.mv rfl) ?_
    refine AL.val rfl (.inl rfl) (HV.mv rfl) ?_
    obtain ⟨p5, z6, cs7, hz8, hK9, hC10, hP11⟩ := RdK.ix (q := (i : Int)) hr sl45 (by omega) (by omega)
    obtain ⟨v12, rfl, hr13⟩ := hK9
    have hm14 := hr13.max
    refine AL.val rfl (.inl rfl) (hP11 rfl rfl) ?_
    refine AL.val rfl (.inl rfl) (HV.ld rfl va22 (cells_first (hC10.ext X3) rfl)) ?_
    refine AL.val rfl (.inl rfl) (HV.mv rfl) ?_
    refine AL.w rfl (.inl rfl) (WV.call fn63 rfl (heldS_ok p (hr13.ext X3) (by have q1 := hl.2 (l.getD i []) (by have e : l.getD i [] = l[i]'(by omega) := (by simp [show i < l.length by omega]); rw [e]; exact List.getElem_mem _); rw [← hk.2 i, (gd hz8 rfl : k.getD i [] = z6)] at q1; omega) (by have q1 := hh i (by omega); rw [(gd hz8 rfl : k.getD i [] = z6), ← hp] at q1; exact q1))) ?_
    rintro _ H15 ⟨rfl, hx16⟩
    have X17 := Ext.trans X3 hx16
    refine AL.val rfl (.inl rfl) (HV.as rfl) ?_
    refine AL.nx ?_
    refine AW.rs ?_
    refine AL.val rfl (.inl rfl) (HV.mv rfl) ?_
    refine AL.val rfl (.inl rfl) (HV.lti rfl rfl) ?_
    refine AL.nx ?_
    refine AW.ifd rfl (fun c18 => ?_) (fun c18 => ?_)
    · -- then
      refine AW.rs ?_
      refine AL.val rfl (.inl rfl) (HV.as rfl) ?_
      refine AL.nx ?_
      refine AW.ret ?_
      refine ret_blk (ret_and (ret_and (ret_blk (ret_and ?_))))
      refine post_one rfl rfl ?_ (.inr rfl)
      exfalso; omega
    · -- else
      refine AW.skip ?_
      refine nrm_blk (nrm_and ?_)
      refine AW.reg ?_
      refine AL.val rfl (.inl rfl) (HV.mv rfl) ?_
      refine AL.val rfl (.inl rfl) (HV.add rfl rfl (by omega)) ?_
      refine AL.val rfl (.inl rfl) (HV.as rfl) ?_
      refine AL.nil ?_
      refine nrm_and ?_
      exact ⟨(i + 1, (p + (z6.length : Int))), ⟨X17, by omega, by rw [offs_succ (by omega), ← hk.2 i, (gd hz8 rfl : k.getD i [] = z6)]; omega, trivial⟩, by first | omega | (dsimp only; omega), ⟨rfl, rfl, rfl, trivial⟩⟩
  · -- else
    refine AW.exit ?_
    refine ex_and (ex_and (ex_blk ?_))
    refine nrm_and ?_
    refine AW.rs ?_
    refine AL.val rfl (.inl rfl) (HV.mv rfl) ?_
    refine AL.val rfl (.inl rfl) (HV.as rfl) ?_
    refine AL.nx ?_
    refine AW.ret ?_
    refine post_one rfl rfl ?_ (.inr rfl)
    exact ⟨by obtain rfl : i = l.length := (by omega); exact congrArg (Value.int .i64) hp, X3⟩

set_option maxRecDepth 100000 in
theorem markRowS_ok {v : Value} {rl : List (Int × Value)} {okR okI : Nat → Prop} {lab : Nat → Nat} (ho : OwnK (kP kI kV) 54 W H okR v rl) (hin : RawIn W H okI lab rl) (hd : ∀ b, okR b → okI b → False) (hl : rl.length ≤ 1048576) (q : Int) (hq : 0 ≤ q ∧ q ≤ 4194304) : ACalls Try.prog W 62 #[v, .int .i64 q] H (fun r H' => (∃ q' : Int, r = .int .i64 q' ∧ 0 ≤ q' ∧ q' ≤ 4194304 + (rl.length : Int) * 1048577) ∧ But (fun b => okR b ∨ okI b) H H') := by
  refine ACalls.of (args := [v, .int .i64 q]) Try.func62 rfl rfl ?_
  have X0 := Ext.refl H
  have B0 := But.refl (fun b => okR b ∨ okI b) H
  have hmL := ho.rd.max
  refine AW.rs ?_
  refine AL.val rfl (.inl rfl) (HV.as rfl) ?_
  refine AL.nx ?_
  refine AW.seq ?_
  refine AW.rs ?_
  refine AL.val rfl (.inl rfl) (HV.as rfl) ?_
  refine AL.nx ?_
  refine AW.block ?_
  refine AW.loop (σ := Nat × Int × List (Int × Value)) (fun ⟨i, p, k⟩ => [(0, v), (4, .int .i64 0), (0, v), (1, .int .i64 p), (5, .int .i64 (i : Int))]) (fun ⟨i, p, k⟩ H' => i ≤ rl.length ∧ 0 ≤ p ∧ p ≤ 4194304 + (i : Int) * 1048577 ∧ k.length = rl.length ∧ OwnK (kP kI kV) 54 W H' okR v k ∧ RawIn W H' okI lab k ∧ But (fun b => okR b ∨ okI b) H H' ∧ True) (fun ⟨i, p, k⟩ => rl.length - i) (0, q, rl) ⟨Nat.zero_le _, hq.1, by omega, rfl, ho, hin, B0, trivial⟩ ⟨rfl, rfl, rfl, rfl, rfl, trivial⟩ ?_
  rintro ⟨i, p, k⟩ H1 ⟨hi, hp0, hp, hk, hoL, hinL, hB, _⟩
  refine AW.seq ?_
  refine AW.rs ?_
  refine AL.val rfl (.inl rfl) (HV.mv rfl) ?_
  refine AL.val rfl (.inl rfl) (HV.mv rfl) ?_
  refine AL.val rfl (.inl rfl) (HV.len Try.underlying28 rfl hoL.rd.isSl) ?_
  refine AL.val rfl (.inl rfl) (HV.lti rfl rfl) ?_
  refine AL.nx ?_
  refine AW.ifd rfl (fun c2 => ?_) (fun c2 => ?_)
  · -- then
    refine AW.skip ?_
    refine nrm_and ?_
    refine AW.seq ?_
    refine AW.block ?_
    refine AW.rs ?_
    refine AL.val rfl (.inl rfl) (HV.mv rfl) ?_
    refine AL.val rfl (.inl rfl) (HV.mv rfl) ?_
    refine AL.val rfl (.inl rfl) (HV.mv rfl) ?_
    obtain ⟨g3, z4, cs5, hz6, hK7, hC8, hg9, hP10⟩ := OwnK.ix (q := (i : Int)) hoL sl28 (by omega) (by omega)
    have X11 := Ext.refl H1
    obtain ⟨cs12, cs13, rfl, hK14, hK15⟩ := hK7
    obtain rfl : cs12 = [.int .i64 z4.1] := hK14
    obtain ⟨rfl, n17, isl16⟩ : cs13 = [z4.2] ∧ ∃ n, IsSl z4.2 n := hK15
    refine AL.val rfl (.inl rfl) (hP10 rfl rfl) ?_
    refine AL.val rfl (.inl rfl) (HV.fa fl54_0 rfl) ?_
    refine AL.w0 (.inl rfl) (WV.stF (x' := (p, z4.2)) (off := 0) (kP_flat kI_flat kV_flat) hoL hg9 rfl rfl va2 rfl hz6 (by decide) (one_cons rfl one_nil) (fun cs hc => by obtain ⟨_, _, rfl, rfl, rfl, isl_⟩ := hc; exact ⟨[_], [_], rfl, rfl, rfl, isl_⟩)) ?_
    rintro _ H18 ⟨hx19, ho20⟩
    have hin21 := RawIn.but hinL hx19 (fun b h1 h2 => hd b (hoL.blk b h2).1 h1) (fun b h2 => (hoL.blk b h2).2.2)
    have hin22 := RawIn.set (a := p) hin21 hz6
    have B23 := But.trans hB (But.mono hx19 (fun b e => .inl (hoL.blk b e).1))
    have hls24 : (k.set ((i : Int) : Int).toNat (p, z4.2)).length = k.length := List.length_set
    refine AL.nx ?_
    refine AW.rs ?_
    refine AL.val rfl (.inl rfl) (HV.mv rfl) ?_
    refine AL.val rfl (.inl rfl) (HV.add rfl rfl (by omega)) ?_
    refine AL.val rfl (.inl rfl) (HV.as rfl) ?_
    refine AL.nx ?_
    refine AW.reg ?_
    refine AL.val rfl (.inl rfl) (HV.mv rfl) ?_
    refine AL.val rfl (.inl rfl) (HV.mv rfl) ?_
    obtain ⟨g25, z26, cs27, hz28, hK29, hC30, hg31, hP32⟩ := OwnK.ix (q := (i : Int)) ho20 sl28 (by omega) (by omega)
    have X33 := Ext.refl H18
    obtain ⟨cs34, cs35, rfl, hK36, hK37⟩ := hK29
    obtain rfl : cs34 = [.int .i64 z26.1] := hK36
    obtain ⟨rfl, n39, isl38⟩ : cs35 = [z26.2] ∧ ∃ n, IsSl z26.2 n := hK37
    refine AL.val rfl (.inl rfl) (hP32 rfl rfl) ?_
    refine AL.val rfl (.inl rfl) (HV.fa fl54_1 rfl) ?_
    refine AL.val rfl (.inl rfl) (HV.ld rfl va22 (cells_at hC30 rfl)) ?_
    refine AL.val rfl (.inl rfl) (HV.mv rfl) ?_
    obtain ⟨x40, hxl41, hox42⟩ := hin22 _ _ hz28
    refine AL.w rfl (.inl rfl) (WV.call fn31 rfl (markS_ok (p + 1) hox42 (by omega))) ?_
    rintro _ H43 ⟨k44, rfl, hk45, hh46, hx47, ho48⟩
    have ho49 := ho20.but hx47 (fun b hb _ e => hd b hb (hox42.blk b e).1.1) (fun b e => (hox42.blk b e).2.2)
    have hin50 := hin22.mark hz28 hox42 hx47 ho48 (by omega)
    have B52 := But.trans B23 (But.mono hx47 (fun b e => .inr (hox42.blk b e).1.1))
    refine AL.val rfl (.inl rfl) (HV.as rfl) ?_
    refine AL.nil ?_
    refine nrm_blk (nrm_and ?_)
    refine AW.reg ?_
    refine AL.val rfl (.inl rfl) (HV.mv rfl) ?_
    refine AL.val rfl (.inl rfl) (HV.add rfl rfl (by omega)) ?_
    refine AL.val rfl (.inl rfl) (HV.as rfl) ?_
    refine AL.nil ?_
    refine nrm_and ?_
    exact ⟨(i + 1, ((p + 1) + (x40.length : Int)), (k.set ((i : Int) : Int).toNat (p, z4.2))), ⟨by omega, by omega, by omega, by simp [hk], ho49, hin50, B52, trivial⟩, by first | omega | (dsimp only; omega), ⟨rfl, rfl, rfl, rfl, rfl, trivial⟩⟩
  · -- else
    refine AW.exit ?_
    refine ex_and (ex_and (ex_blk ?_))
    refine nrm_and ?_
    refine AW.rs ?_
    refine AL.val rfl (.inl rfl) (HV.mv rfl) ?_
    refine AL.val rfl (.inl rfl) (HV.as rfl) ?_
    refine AL.nx ?_
    refine AW.ret ?_
    refine post_one rfl rfl ?_ (.inr rfl)
    exact ⟨⟨_, rfl, hp0, by obtain rfl : i = rl.length := (by omega); exact hp⟩, hB⟩

set_option maxRecDepth 100000 in
theorem markTable_ok {u w : Value} {s : List Int} {l : List (Int × List Int)} {okU okW : Nat → Prop} (n : Int) (hu : OwnK kI 2 W H okU u s) (hw : OwnD (kP kI (kO 2 kI)) 54 W H okW w l) (hd : ∀ b, okU b → okW b → False) (hsl : s.length ≤ 1048576) (hl : (l.length ≤ 1048576 ∧ ∀ x ∈ l, x.2.length ≤ 1048576)) (q : Int) (hq : 0 ≤ q ∧ q ≤ 2000000) : ACalls Try.prog W 30 #[.agg #[.int .i64 n, u, w], .int .i64 q] H (fun r H' => (∃ q' : Int, r = .int .i64 q' ∧ 0 ≤ q' ∧ q' ≤ 1200000000000) ∧ But (fun b => okU b ∨ okW b) H H') := by
  refine ACalls.of (args := [.agg #[.int .i64 n, u, w], .int .i64 q]) Try.func30 rfl rfl ?_
  have X0 := Ext.refl H
  have B0 := But.refl (fun b => okU b ∨ okW b) H
  have hub := hu.ltb
  refine AW.rs ?_
  refine AL.w rfl (.inl rfl) (WV.bx rfl rfl) ?_
  rintro _ H2 ⟨b1, rfl, hx3, hn4, hb5⟩
  have o6 := Nat.le_trans X0.bd hn4
  have X7 := Ext.trans X0 hx3
  have B8 := But.trans B0 (Ext.but hx3 _)
  have ho9 := hu.ext hx3
  have ho10 := hw.ext hx3
  have X11 := Ext.refl H2
  refine AL.val rfl (.inl rfl) (HV.as rfl) ?_
  refine AL.nx ?_
  refine AW.rs ?_
  refine AL.val rfl (.inl rfl) (HV.fa fl30_1 rfl) ?_
  refine AL.val rfl (.inl rfl) (HV.ld rfl va22 (at_cell_add hb5 rfl)) ?_
  refine AL.val rfl (.inl rfl) (HV.mv rfl) ?_
  refine AL.w rfl (.inl rfl) (WV.call fn31 rfl (markS_ok q ho9 (by omega))) ?_
  rintro _ H12 ⟨k13, rfl, hk14, hh15, hx16, ho17⟩
  have ho18 := ho10.but hx16 (fun b hb _ e => hd b (ho9.blk b e).1 hb) (fun b e => (ho9.blk b e).2.2)
  have B19 := But.trans B8 (But.mono hx16 (fun b e => .inl (ho9.blk b e).1))
  have hb20 := hb5.but hx16 (fun e => by have q1 := hub _ e; omega)
  refine AL.val rfl (.inl rfl) (HV.as rfl) ?_
  refine AL.nx ?_
  refine AW.rs ?_
  refine AL.val rfl (.inl rfl) (HV.fa fl30_2 rfl) ?_
  refine AL.val rfl (.inl rfl) (HV.ld rfl va28 (at_cell_add hb20 rfl)) ?_
  refine AL.val rfl (.inl rfl) (HV.mv rfl) ?_
  obtain ⟨lab, rl, hrl, hro, hri⟩ := ho18.rawP
  have hin : RawIn W H12 (fun b => okW b ∧ some b ≠ w.ownBlock) lab rl := fun j p hp => by
    have hj : j < l.length := by rw [← hrl]; exact (List.getElem?_eq_some_iff.1 hp).1
    exact ⟨l[j].2, hl.2 _ (List.getElem_mem hj), hri j _ p (List.getElem?_eq_getElem hj) hp⟩
  refine AL.w rfl (.inl rfl) (WV.call fn62 rfl (markRowS_ok hro hin (fun b h1 h2 => h2.2 h1.2) (by have := hl.1; omega) (q + (s.length : Int)) (by omega))) ?_
  rintro _ H21 ⟨⟨q22, rfl, hq23, hq24⟩, hx25⟩
  have B26 := But.trans B19 (But.mono hx25 (fun b h => .inr (h.elim (·.1) (·.1))))
  refine AL.val rfl (.inl rfl) (HV.as rfl) ?_
  refine AL.nx ?_
  refine AW.rs ?_
  refine AL.val rfl (.inl rfl) (HV.mv rfl) ?_
  refine AL.val rfl (.inl rfl) (HV.as rfl) ?_
  refine AL.nx ?_
  refine AW.ret ?_
  refine post_one rfl rfl ?_ (.inr rfl)
  exact ⟨⟨_, rfl, hq23, by have := hl.1; have q9 := hq24; omega⟩, B26⟩

set_option maxRecDepth 100000 in
theorem toTable2_ok {vs v : Value} {s : List Int} {l : List (Int × List Int)} {oks ok : Nat → Prop} (n : Int) (hs : RdK kI W H oks vs s) (hr : RdK (kP kI (kR kI)) W H ok v l) (hsl : s.length ≤ 1048576) (hl : (l.length ≤ 1048576 ∧ ∀ x ∈ l, x.2.length ≤ 1048576)) : ACalls Try.prog W 12 #[.agg #[.int .i64 n, vs, v]] H (fun r H' => (∃ (u w : Value) (B : Nat), r = .agg #[.int .i64 n, u, w] ∧ OwnK kI 2 W H' (fun b => H.bd ≤ b ∧ b < B) u s ∧ OwnD (kP kI (kO 2 kI)) 54 W H' (fun b => H.bd ≤ b ∧ B ≤ b) w l) ∧ Ext H H') := by
  refine ACalls.of (args := [.agg #[.int .i64 n, vs, v]]) Try.func12 rfl rfl ?_
  have X0 := Ext.refl H
  have hm1 := hs.max
  have hm2 := hr.max
  refine AW.rs ?_
  refine AL.w rfl (.inl rfl) (WV.bx rfl rfl) ?_
  rintro _ H4 ⟨b3, rfl, hx5, hn6, hb7⟩
  have o8 := Nat.le_trans X0.bd hn6
  have X9 := Ext.trans X0 hx5
  have X10 := Ext.refl H4
  refine AL.w rfl (.inl rfl) (WV.al ze30 rfl) ?_
  rintro _ H12 ⟨b11, rfl, hx13, hn14, hb15⟩
  have o16 := Nat.le_trans X9.bd hn14
  have o17 := Nat.le_trans X10.bd hn14
  have ne18 : b3 ≠ b11 := by have := hb7.lt; omega
  have X19 := Ext.trans X9 hx13
  have X20 := Ext.trans X10 hx13
  have hb21 := hb7.ext hx13
  have X22 := Ext.refl H12
  refine AL.nx ?_
  refine AW.rs ?_
  refine AL.w rfl (.inl rfl) (WV.al ze30 rfl) ?_
  rintro _ H24 ⟨b23, rfl, hx25, hn26, hb27⟩
  have o28 := Nat.le_trans X19.bd hn26
  have o29 := Nat.le_trans X20.bd hn26
  have o30 := Nat.le_trans X22.bd hn26
  have ne31 : b3 ≠ b23 := by have := hb21.lt; omega
  have ne32 : b11 ≠ b23 := by have := hb15.lt; omega
  have X33 := Ext.trans X19 hx25
  have X34 := Ext.trans X20 hx25
  have X35 := Ext.trans X22 hx25
  have hb36 := hb21.ext hx25
  have hb37 := hb15.ext hx25
  have X38 := Ext.refl H24
  refine AL.nx ?_
  refine AW.rs ?_
  refine AL.val rfl (.inl rfl) (HV.fa fl25_0 rfl) ?_
  refine AL.val rfl (.inl rfl) (HV.ld rfl va2 (at_cell hb36 rfl)) ?_
  refine AL.val rfl (.inl rfl) (HV.fa fl30_0 rfl) ?_
  refine AL.w0 (.inl rfl) (WV.st rfl rfl va2 rfl hb27 (Nat.le_of_ble_eq_true rfl) (one_cons rfl one_nil)) ?_
  rintro _ H39 ⟨hx40, hb41⟩
  have X42 := Ext.thru X33 hx40 (fun z_ hz_ => by rw [hz_]; exact o28)
  have X43 := Ext.thru X34 hx40 (fun z_ hz_ => by rw [hz_]; exact o29)
  have X44 := Ext.thru X35 hx40 (fun z_ hz_ => by rw [hz_]; exact o30)
  have hb46 := hb36.but hx40 ne31
  have hb47 := hb37.but hx40 ne32
  have hb48 : At W H39 b23 ⟨30, [.int .i64 n, (.slice none 0 0), (.slice none 0 0)], 3⟩ := hb41
  refine AL.nx ?_
  refine AW.rs ?_
  refine AL.val rfl (.inl rfl) (HV.fa fl25_1 rfl) ?_
  refine AL.val rfl (.inl rfl) (HV.ld rfl va22 (at_cell_add hb46 rfl)) ?_
  have X49 := Ext.refl H39
  have y50 := hb46.lt
  have y51 := hb47.lt
  have y52 := hb48.lt
  have o53 := X42.bd
  have o54 := X43.bd
  have o55 := X44.bd
  have o56 := X49.bd
  refine AL.w rfl (.inl rfl) (WV.call fn18 rfl (toS_ok (hs.ext X42) hsl)) ?_
  rintro v57 H58 ⟨hx59, ho60⟩
  have X62 := Ext.trans X42 hx59
  have X63 := Ext.trans X43 hx59
  have X64 := Ext.trans X44 hx59
  have X65 := Ext.trans X49 hx59
  have hb66 := hb46.ext hx59
  have hb67 := hb47.ext hx59
  have hb68 := hb48.ext hx59
  have X69 := Ext.refl H58
  have ho61 := ho60.okk (ok' := fun b => H39.bd ≤ b ∧ b < H58.bd) (fun b hb hlt => ⟨hb, hlt⟩)
  refine AL.val rfl (.inl rfl) (HV.fa fl30_1 rfl) ?_
  refine AL.w0 (.inl rfl) (WV.st rfl rfl va22 (sl_size ho61.rd.isSl) hb68 (Nat.le_of_ble_eq_true rfl) (sl_one ho61.rd.isSl)) ?_
  rintro _ H71 ⟨hx72, hb73⟩
  rw [sl_cells ho61.rd.isSl] at hb73
  have X74 := Ext.thru X62 hx72 (fun z_ hz_ => by rw [hz_]; exact o28)
  have X75 := Ext.thru X63 hx72 (fun z_ hz_ => by rw [hz_]; exact o29)
  have X76 := Ext.thru X64 hx72 (fun z_ hz_ => by rw [hz_]; exact o30)
  have ho79 := ho61.but hx72 (fun b hb _ e => by have hb' : H39.bd ≤ b ∧ b < H58.bd := hb; have e' : b = b23 := e; omega) (fun z_ hz_ => by rw [hz_]; exact hb68.w)
  have hb80 := hb66.but hx72 ne31
  have hb81 := hb67.but hx72 ne32
  have hb82 : At W H71 b23 ⟨30, [.int .i64 n, v57, (.slice none 0 0)], 3⟩ := hb73
  refine AL.nx ?_
  refine AW.rs ?_
  refine AL.val rfl (.inl rfl) (HV.fa fl25_2 rfl) ?_
  refine AL.val rfl (.inl rfl) (HV.ld rfl va23 (at_cell_add hb80 rfl)) ?_
  have ho83 := ho79.okk (ok' := fun b => H39.bd ≤ b ∧ b < H71.bd) (fun b hb hlt => ⟨hb.1, hlt⟩)
  have X84 := Ext.refl H71
  have y85 := hb80.lt
  have y86 := hb81.lt
  have y87 := hb82.lt
  have o88 := X74.bd
  have o89 := X75.bd
  have o90 := X76.bd
  have o91 := X84.bd
  have a92 := ho83.ltb
  refine AL.w rfl (.inl rfl) (WV.call fn37 rfl (toRowS_ok (hr.ext X74) hl.1 hl.2)) ?_
  rintro v93 H94 ⟨hx95, ho96⟩
  have X97 := Ext.trans X74 hx95
  have X98 := Ext.trans X75 hx95
  have X99 := Ext.trans X76 hx95
  have X100 := Ext.trans X84 hx95
  have ho101 := ho83.ext hx95
  have hb102 := hb80.ext hx95
  have hb103 := hb81.ext hx95
  have hb104 := hb82.ext hx95
  refine AL.val rfl (.inl rfl) (HV.fa fl30_2 rfl) ?_
  refine AL.w0 (.inl rfl) (WV.st rfl rfl va28 (sl_size (ho96.rd.le (le_P (Le.refl _) (le_OR (Le.refl _)))).isSl) hb104 (Nat.le_of_ble_eq_true rfl) (sl_one (ho96.rd.le (le_P (Le.refl _) (le_OR (Le.refl _)))).isSl)) ?_
  rintro _ H106 ⟨hx107, hb108⟩
  rw [sl_cells (ho96.rd.le (le_P (Le.refl _) (le_OR (Le.refl _)))).isSl] at hb108
  have X109 := Ext.thru X97 hx107 (fun z_ hz_ => by rw [hz_]; exact o28)
  have X110 := Ext.thru X98 hx107 (fun z_ hz_ => by rw [hz_]; exact o29)
  have X111 := Ext.thru X99 hx107 (fun z_ hz_ => by rw [hz_]; exact o30)
  have ho113 := ho101.but hx107 (fun b hb _ e => by have hb' : H39.bd ≤ b ∧ b < H71.bd := hb; have e' : b = b23 := e; omega) (fun z_ hz_ => by rw [hz_]; exact hb104.w)
  have ho114 := ho96.but hx107 (fun b hb _ e => by have hb' : H71.bd ≤ b := hb; have e' : b = b23 := e; omega) (fun z_ hz_ => by rw [hz_]; exact hb104.w)
  have hb115 := hb102.but hx107 ne31
  have hb116 := hb103.but hx107 ne32
  have hb117 : At W H106 b23 ⟨30, [.int .i64 n, v57, v93], 3⟩ := hb108
  refine AL.nx ?_
  refine AW.rs ?_
  refine AL.val rfl (.inl rfl) (HV.lda (cs := [.int .i64 n, v57, v93]) rfl va30 (at_cells hb117 rfl)) ?_
  refine AL.w0 (.inl rfl) (WV.st rfl rfl va30 rfl hb116 (Nat.le_of_ble_eq_true rfl) (one_cons rfl (one_cons (sl_one1 ho113.rd.isSl) (one_cons (sl_one1 (ho114.rd.le (le_P (Le.refl _) (le_OR (Le.refl _)))).isSl) one_nil)))) ?_
  rintro _ H118 ⟨hx119, hb120⟩
  have X121 := Ext.thru X109 hx119 (fun z_ hz_ => by rw [hz_]; exact o16)
  have X122 := Ext.thru X110 hx119 (fun z_ hz_ => by rw [hz_]; exact o17)
  have ho124 := ho113.but hx119 (fun b hb _ e => by have hb' : H39.bd ≤ b ∧ b < H71.bd := hb; have e' : b = b11 := e; omega) (fun z_ hz_ => by rw [hz_]; exact hb116.w)
  have ho125 := ho114.but hx119 (fun b hb _ e => by have hb' : H71.bd ≤ b := hb; have e' : b = b11 := e; omega) (fun z_ hz_ => by rw [hz_]; exact hb116.w)
  have hb126 := hb115.but hx119 ne18
  have hb127 := hb117.but hx119 (fun e => ne32 e.symm)
  have hb128 : At W H118 b11 ⟨30, [.int .i64 n, v57, v93], 3⟩ := hb120
  refine AL.nx ?_
  refine AW.ret ?_
  refine post_cell rfl rfl va30 hb128 ?_ (.inr rfl)
  exact ⟨⟨_, _, H71.bd, rfl, ho124.okk (fun b hb _ => ⟨Nat.le_trans o53 hb.1, hb.2⟩), ho125.okk (fun b hb _ => ⟨Nat.le_trans o88 hb, hb⟩)⟩, X121⟩

set_option maxRecDepth 100000 in
theorem law_ViewsOf {vs v : Value} {s : List Int} {l : List (Int × List Int)} {oks ok : Nat → Prop} (n : Int) (hs : RdK kI W H oks vs s) (hr : RdK (kP kI (kR kI)) W H ok v l) {vg : Value} {g : List Int} {okg : Nat → Prop} (hgr : RdK kI W H okg vg g) (hW : W.heap.size ≤ H.bd) : ACalls Try.prog W 9 #[.agg #[.int .i64 n, vs, v], vg] H (fun r H' => r = .bool true ∧ Ext H H') := by
  refine ACalls.of (args := [.agg #[.int .i64 n, vs, v], vg]) Try.func9 rfl rfl ?_
  have X0 := Ext.refl H
  have hm1 := hs.max
  have hm2 := hr.max
  have hm3 := hgr.max
  refine AW.rs ?_
  refine AL.w rfl (.inl rfl) (WV.bx rfl rfl) ?_
  rintro _ H5 ⟨b4, rfl, hx6, hn7, hb8⟩
  have o9 := Nat.le_trans X0.bd hn7
  have X10 := Ext.trans X0 hx6
  have X11 := Ext.refl H5
  refine AL.val rfl (.inl rfl) (HV.as rfl) ?_
  refine AL.nx ?_
  refine AW.seq ?_
  refine AW.rs ?_
  refine AL.val rfl (.inl rfl) (HV.mv rfl) ?_
  refine AL.val rfl (.inl rfl) (HV.len Try.underlying22 rfl hgr.isSl) ?_
  refine AL.val rfl (.inl rfl) (HV.gti rfl rfl) ?_
  refine AL.nx ?_
  refine AW.ifd rfl (fun c12 => ?_) (fun c12 => ?_)
  · -- then
    refine AW.rs ?_
    refine AL.val rfl (.inl rfl) (HV.as rfl) ?_
    refine AL.nx ?_
    refine AW.ret ?_
    refine ret_and ?_
    refine post_one rfl rfl ?_ (.inr rfl)
    exact ⟨rfl, X10⟩
  · -- else
    refine AW.skip ?_
    refine nrm_and ?_
    refine AW.rs ?_
    refine AL.val rfl (.inl rfl) (HV.as rfl) ?_
    refine AL.nx ?_
    refine AW.rs ?_
    refine AL.val rfl (.inl rfl) (HV.lda (cs := [.int .i64 n, vs, v]) rfl va25 (at_cells hb8 rfl)) ?_
    refine AL.val rfl (.inl rfl) (HV.mv rfl) ?_
    refine AL.w rfl (.inl rfl) (WV.call fn10 rfl (szTable_ok n (hs.ext X10) (hr.ext X10) 1048576 (by omega))) ?_
    rintro _ H13 ⟨⟨q15, rfl, ha16, hb17, he18⟩, hx14⟩
    have X19 := Ext.trans X10 hx14
    have X20 := Ext.trans X11 hx14
    have hb21 := hb8.ext hx14
    refine AL.val rfl (.inl rfl) (HV.as rfl) ?_
    refine AL.nx ?_
    refine AW.seq ?_
    refine AW.rs ?_
    refine AL.val rfl (.inl rfl) (HV.mv rfl) ?_
    refine AL.val rfl (.inl rfl) (HV.lti rfl rfl) ?_
    refine AL.nx ?_
    refine AW.ifd rfl (fun c22 => ?_) (fun c22 => ?_)
    · -- then
      refine AW.rs ?_
      refine AL.val rfl (.inl rfl) (HV.as rfl) ?_
      refine AL.nx ?_
      refine AW.ret ?_
      refine ret_and ?_
      refine post_one rfl rfl ?_ (.inr rfl)
      exact ⟨rfl, X19⟩
    · -- else
      refine AW.skip ?_
      refine nrm_and ?_
      refine AW.rs ?_
      refine AL.val rfl (.inl rfl) (HV.lda (cs := [.int .i64 n, vs, v]) rfl va25 (at_cells hb21 rfl)) ?_
      refine AL.w rfl (.inl rfl) (WV.call fn12 rfl (toTable_ok n (hs.ext X19) (hr.ext X19) (he18 (by omega)).1 (he18 (by omega)).2)) ?_
      rintro _ H25 ⟨⟨u23, v24, rfl, ho27, ho28⟩, hx26⟩
      have X31 := Ext.trans X19 hx26
      have X32 := Ext.trans X20 hx26
      have hb33 := hb21.ext hx26
      have X34 := Ext.refl H25
      have hr29 := ho27.rd
      have hr30 := ho28.rd.le (le_P (Le.refl _) (le_OR (Le.refl _)))
      refine AL.val rfl (.inl rfl) (HV.mv rfl) ?_
      refine AL.w rfl (.inl rfl) (WV.call fn18 rfl (toS_ok (hgr.ext X31) (by omega))) ?_
      rintro v35 H36 ⟨hx37, ho38⟩
      have X40 := Ext.trans X31 hx37
      have X41 := Ext.trans X32 hx37
      have X42 := Ext.trans X34 hx37
      have hb43 := hb33.ext hx37
      have X44 := Ext.refl H36
      have hr39 := ho38.rd
      have y45 := hb43.lt
      have o46 := X40.bd
      have o47 := X41.bd
      have o48 := X42.bd
      have o49 := X44.bd
      refine AL.w rfl (.inl rfl) (WV.call fn27 rfl (specVW_ok n (hr29.ext X42) (hr30.ext X42) hr39)) ?_
      rintro _ H57 ⟨⟨u50, v51, k52, m53, rfl, hk55, hm56, ho59, ho60⟩, hx58⟩
      have X65 := Ext.trans X40 hx58
      have X66 := Ext.trans X41 hx58
      have X67 := Ext.trans X42 hx58
      have X68 := Ext.trans X44 hx58
      have hb69 := hb43.ext hx58
      have X70 := Ext.refl H57
      refine AL.val rfl (.inl rfl) (HV.mv rfl) ?_
      refine AL.val rfl (.inl rfl) (HV.ex rfl rfl) ?_
      refine AL.val rfl (.inl rfl) (HV.ex rfl rfl) ?_
      refine AL.val rfl (.inl rfl) (HV.ex rfl rfl) ?_
      refine AL.val rfl (.inl rfl) (HV.as rfl) ?_
      refine AL.val rfl (.inl rfl) (HV.as rfl) ?_
      refine AL.val rfl (.inl rfl) (HV.as rfl) ?_
      refine AL.nx ?_
      refine AW.rs ?_
      refine AL.val rfl (.inl rfl) (HV.lda (cs := [.int .i64 n, vs, v]) rfl va25 (at_cells hb69 rfl)) ?_
      have y71 := hb69.lt
      have o72 := X65.bd
      have o73 := X66.bd
      have o74 := X67.bd
      have o75 := X68.bd
      have o76 := X70.bd
      refine AL.w rfl (.inl rfl) (WV.call fn12 rfl (toTable2_ok n (hs.ext X65) (hr.ext X65) (he18 (by omega)).1 (he18 (by omega)).2)) ?_
      rintro _ H80 ⟨⟨u77, v78, B79, rfl, ho82, ho83⟩, hx81⟩
      have X86 := Ext.trans X65 hx81
      have X87 := Ext.trans X66 hx81
      have X88 := Ext.trans X67 hx81
      have X89 := Ext.trans X68 hx81
      have X90 := Ext.trans X70 hx81
      have hb91 := hb69.ext hx81
      have X92 := Ext.refl H80
      have ho84 := ho82.okk (ok' := fun b => (H57.bd ≤ b ∧ b < B79) ∧ b < H80.bd) (fun b hb hlt => ⟨hb, hlt⟩)
      have ho85 := ho83.okk (ok' := fun b => (H57.bd ≤ b ∧ B79 ≤ b) ∧ b < H80.bd) (fun b hb hlt => ⟨hb, hlt⟩)
      refine AL.w rfl (.inl rfl) (WV.al ze30 rfl) ?_
      rintro _ H96 ⟨b95, rfl, hx97, hn98, hb99⟩
      have o100 := Nat.le_trans X86.bd hn98
      have o101 := Nat.le_trans X87.bd hn98
      have o102 := Nat.le_trans X88.bd hn98
      have o103 := Nat.le_trans X89.bd hn98
      have o104 := Nat.le_trans X90.bd hn98
      have o105 := Nat.le_trans X92.bd hn98
      have ne106 : b4 ≠ b95 := by have := hb91.lt; omega
      have X107 := Ext.trans X86 hx97
      have X108 := Ext.trans X87 hx97
      have X109 := Ext.trans X88 hx97
      have X110 := Ext.trans X89 hx97
      have X111 := Ext.trans X90 hx97
      have X112 := Ext.trans X92 hx97
      have ho113 := ho84.ext hx97
      have ho114 := ho85.ext hx97
      have hb115 := hb91.ext hx97
      have X116 := Ext.refl H96
      refine AL.w0 (.inl rfl) (WV.st rfl rfl va30 rfl hb99 (Nat.le_of_ble_eq_true rfl) (one_cons rfl (one_cons (sl_one1 ho113.rd.isSl) (one_cons (sl_one1 (ho114.rd.le (le_P (Le.refl _) (le_OR (Le.refl _)))).isSl) one_nil)))) ?_
      rintro _ H117 ⟨hx118, hb119⟩
      have X120 := Ext.thru X107 hx118 (fun z_ hz_ => by rw [hz_]; exact o100)
      have X121 := Ext.thru X108 hx118 (fun z_ hz_ => by rw [hz_]; exact o101)
      have X122 := Ext.thru X109 hx118 (fun z_ hz_ => by rw [hz_]; exact o102)
      have X123 := Ext.thru X110 hx118 (fun z_ hz_ => by rw [hz_]; exact o103)
      have X124 := Ext.thru X111 hx118 (fun z_ hz_ => by rw [hz_]; exact o104)
      have X125 := Ext.thru X112 hx118 (fun z_ hz_ => by rw [hz_]; exact o105)
      have ho127 := ho113.but hx118 (fun b hb _ e => by have hb' : (H57.bd ≤ b ∧ b < B79) ∧ b < H80.bd := hb; have e' : b = b95 := e; omega) (fun z_ hz_ => by rw [hz_]; exact hb99.w)
      have ho128 := ho114.but hx118 (fun b hb _ e => by have hb' : (H57.bd ≤ b ∧ B79 ≤ b) ∧ b < H80.bd := hb; have e' : b = b95 := e; omega) (fun z_ hz_ => by rw [hz_]; exact hb99.w)
      have hb129 := hb115.but hx118 ne106
      have hb130 : At W H117 b95 ⟨30, [.int .i64 n, u77, v78], 3⟩ := hb119
      refine AL.nx ?_
      refine AW.rs ?_
      refine AL.val rfl (.inl rfl) (HV.mv rfl) ?_
      have X131 := Ext.refl H117
      have y132 := hb129.lt
      have y133 := hb130.lt
      have o134 := X120.bd
      have o135 := X121.bd
      have o136 := X122.bd
      have o137 := X123.bd
      have o138 := X124.bd
      have o139 := X125.bd
      have o140 := X131.bd
      have a141 := ho127.ltb
      have a142 := ho128.ltb
      have s143 := ho128.lo
      refine AL.w rfl (.inl rfl) (WV.call fn18 rfl (toS_ok (hgr.ext X120) (by omega))) ?_
      rintro v144 H145 ⟨hx146, ho147⟩
      have X149 := Ext.trans X120 hx146
      have X150 := Ext.trans X121 hx146
      have X151 := Ext.trans X122 hx146
      have X152 := Ext.trans X123 hx146
      have X153 := Ext.trans X124 hx146
      have X154 := Ext.trans X125 hx146
      have X155 := Ext.trans X131 hx146
      have ho156 := ho127.ext hx146
      have s158 := s143.ext hx146
      have ho157 := ho128.ext hx146
      have hb159 := hb129.ext hx146
      have hb160 := hb130.ext hx146
      have X161 := Ext.refl H145
      have ho148 := ho147.okk (ok' := fun b => H117.bd ≤ b ∧ b < H145.bd) (fun b hb hlt => ⟨hb, hlt⟩)
      refine AL.val rfl (.inl rfl) (HV.as rfl) ?_
      refine AL.nx ?_
      refine AW.rs ?_
      refine AL.val rfl (.inl rfl) (HV.lda (cs := [.int .i64 n, u77, v78]) rfl va30 (at_cells hb160 rfl)) ?_
      refine AL.val rfl (.inl rfl) (HV.mv rfl) ?_
      have y163 := hb159.lt
      have y164 := hb160.lt
      have o165 := X149.bd
      have o166 := X150.bd
      have o167 := X151.bd
      have o168 := X152.bd
      have o169 := X153.bd
      have o170 := X154.bd
      have o171 := X155.bd
      have o172 := X161.bd
      have a173 := ho156.ltb
      have a174 := ho157.ltb
      have s175 := ho157.lo
      have a176 := ho148.ltb
      refine AL.w rfl (.inl rfl) (WV.call fn28 rfl (implVW_ok n ho156.rd (ho157.rd.le (le_P (Le.refl _) (le_OR (Le.refl _)))) ho148.rd)) ?_
      rintro _ H184 ⟨⟨u177, v178, k179, m180, la181, rfl, hk182, hm183, ho186, ho187⟩, hx185⟩
      have X192 := Ext.trans X149 hx185
      have X193 := Ext.trans X150 hx185
      have X194 := Ext.trans X151 hx185
      have X195 := Ext.trans X152 hx185
      have X196 := Ext.trans X153 hx185
      have X197 := Ext.trans X154 hx185
      have X198 := Ext.trans X155 hx185
      have X199 := Ext.trans X161 hx185
      have ho200 := ho156.ext hx185
      have s202 := s175.ext hx185
      have ho201 := ho157.ext hx185
      have ho203 := ho148.ext hx185
      have hb204 := hb159.ext hx185
      have hb205 := hb160.ext hx185
      have X206 := Ext.refl H184
      have hsa190 : k179.length ≤ 1048576 ∧ ∀ x ∈ k179, x.length ≤ 1048576 := by rw [hk182]; have q := (views_short n s l g).1; exact ⟨by omega, fun x hx => by have := q.2 x hx; omega⟩
      have hsb191 : m180.length ≤ 1048576 ∧ ∀ x ∈ m180, x.length ≤ 1048576 := by rw [hm183]; have q := (views_short n s l g).2; exact ⟨by omega, fun x hx => by have := q.2 x hx; omega⟩
      have := offs_le (l := k179) (B := 1024) (by rw [hk182]; exact (views_short n s l g).1.2) k179.length (Nat.le_refl _)
      have := offs_le (l := m180) (B := 1024) (by rw [hm183]; exact (views_short n s l g).2.2) m180.length (Nat.le_refl _)
      have : k179.length ≤ 1024 := by rw [hk182]; exact (views_short n s l g).1.1
      have : m180.length ≤ 1024 := by rw [hm183]; exact (views_short n s l g).2.1
      have hr188 := ho186.okk (ok' := fun b => (H145.bd ≤ b ∧ la181 b = 0) ∧ b < H184.bd) (fun b hb hlt => ⟨hb, hlt⟩)
      have hr189 := ho187.okk (ok' := fun b => (H145.bd ≤ b ∧ la181 b = 1) ∧ b < H184.bd) (fun b hb hlt => ⟨hb, hlt⟩)
      refine AL.val rfl (.inl rfl) (HV.mv rfl) ?_
      refine AL.val rfl (.inl rfl) (HV.ex rfl rfl) ?_
      refine AL.val rfl (.inl rfl) (HV.ex rfl rfl) ?_
      refine AL.val rfl (.inl rfl) (HV.ex rfl rfl) ?_
      refine AL.val rfl (.inl rfl) (HV.as rfl) ?_
      refine AL.val rfl (.inl rfl) (HV.as rfl) ?_
      refine AL.val rfl (.inl rfl) (HV.as rfl) ?_
      refine AL.nx ?_
      refine AW.seq ?_
      refine AW.rs ?_
      refine AL.val rfl (.inl rfl) (HV.mv rfl) ?_
      refine AL.val rfl (.inl rfl) (HV.mv rfl) ?_
      refine AL.w rfl (.inl rfl) (WV.call fn29 rfl (eqSS_ok (rd_ofO hr188.rd) (ho59.ext X196))) ?_
      rintro _ H209 ⟨rfl, hx210⟩
      have X211 := Ext.trans X192 hx210
      have X212 := Ext.trans X193 hx210
      have X213 := Ext.trans X194 hx210
      have X214 := Ext.trans X195 hx210
      have X215 := Ext.trans X196 hx210
      have X216 := Ext.trans X197 hx210
      have X217 := Ext.trans X198 hx210
      have X218 := Ext.trans X199 hx210
      have X219 := Ext.trans X206 hx210
      have ho220 := ho200.ext hx210
      have s222 := s202.ext hx210
      have ho221 := ho201.ext hx210
      have ho223 := ho203.ext hx210
      have ho224 := hr188.ext hx210
      have ho225 := hr189.ext hx210
      have hb226 := hb204.ext hx210
      have hb227 := hb205.ext hx210
      refine AL.val rfl (.inl rfl) (HV.not rfl) ?_
      refine AL.val rfl (.inl rfl) (HV.mv rfl) ?_
      by_cases c228 : k179 = k52
      · -- false
        have c228_ : (!decide (k179 = k52)) = false := by rw [decide_eq_true c228]; rfl
        rw [c228_]
        refine AL.val rfl (.inr ⟨_, _, _, rfl, rfl, rfl⟩) (HV.mv rfl) ?_
        refine AL.val rfl (.inr ⟨_, _, _, rfl, rfl, rfl⟩) (HV.mv rfl) ?_
        refine AL.w rfl (.inr ⟨_, _, _, rfl, rfl, rfl⟩) (WV.call fn29 rfl (eqSS_ok (rd_ofO ho225.rd) (ho60.ext X215))) ?_
        rintro _ H229 ⟨rfl, hx230⟩
        have X231 := Ext.trans X211 hx230
        have X232 := Ext.trans X212 hx230
        have X233 := Ext.trans X213 hx230
        have X234 := Ext.trans X214 hx230
        have X235 := Ext.trans X215 hx230
        have X236 := Ext.trans X216 hx230
        have X237 := Ext.trans X217 hx230
        have X238 := Ext.trans X218 hx230
        have X239 := Ext.trans X219 hx230
        have ho240 := ho220.ext hx230
        have s242 := s222.ext hx230
        have ho241 := ho221.ext hx230
        have ho243 := ho223.ext hx230
        have ho244 := ho224.ext hx230
        have ho245 := ho225.ext hx230
        have hb246 := hb226.ext hx230
        have hb247 := hb227.ext hx230
        refine AL.val rfl (.inr ⟨_, _, _, rfl, rfl, rfl⟩) (HV.not rfl) ?_
        refine AL.val rfl (.inl rfl) (HV.pickF rfl rfl) ?_
        refine AL.val rfl (.inl rfl) (HV.mv rfl) ?_
        by_cases c248 : m180 = m53
        · -- false
          have c248_ : (!decide (m180 = m53)) = false := by rw [decide_eq_true c248]; rfl
          rw [c248_]
          refine AL.val rfl (.inr ⟨_, _, _, rfl, rfl, rfl⟩) (HV.mv rfl) ?_
          refine AL.val rfl (.inr ⟨_, _, _, rfl, rfl, rfl⟩) (HV.mv rfl) ?_
          refine AL.val rfl (.inr ⟨_, _, _, rfl, rfl, rfl⟩) (HV.nei rfl rfl) ?_
          refine AL.val rfl (.inl rfl) (HV.pickF rfl rfl) ?_
          refine AL.nx ?_
          refine AW.ifd rfl (fun c249 => ?_) (fun c249 => ?_)
          · -- then
            refine AW.rs ?_
            refine AL.val rfl (.inl rfl) (HV.as rfl) ?_
            refine AL.nx ?_
            refine AW.ret ?_
            refine ret_and ?_
            refine post_one rfl rfl ?_ (.inr rfl)
            exfalso; first | omega | exact absurd (hk182.trans hk55.symm) c249 | exact absurd (hm183.trans hm56.symm) c249 | (simp at c249; done) | exact absurd c249 (by simp)
          · -- else
            refine AW.skip ?_
            refine nrm_and ?_
            refine AW.seq ?_
            refine AW.seq ?_
            refine AW.draw' [0, 0, 2, 7, 15] mixed (by rfl) ?_
            refine Dr.read 0 _ 63 _ rfl rfl rfl rfl rfl (RV.of (by intro _ _ h; cases h) (.inl rfl) (fun _ xd => HV.lda (cs := [.int .i64 n, u77, v78]) rfl va30 (fun j u hu => rdc_ext xd ((at_cells hb247 rfl) j u hu)))) ?_
            refine Dr.read 1 _ 64 _ rfl rfl rfl rfl rfl (RV.of (by intro _ _ h; cases h) (.inl rfl) (fun _ xd => HV.lda (cs := [.int .i64 n, vs, v]) rfl va25 (fun j u hu => rdc_ext xd ((at_cells hb246 rfl) j u hu)))) ?_
            refine Dr.eff 2 _ _ rfl (by intro d h; cases h; exact ⟨rfl, rfl⟩) rfl rfl rfl (EC.of (by intro _ _ h; cases h) (.inl rfl) (WV.call fn12 rfl (toTable_ok n (hs.ext X231) (hr.ext X231) (he18 (by omega)).1 (he18 (by omega)).2))) (fun v H' h => .inl (h.2)) ?_
            rintro _ H252 ⟨⟨u250, v251, rfl, ho254, ho255⟩, hx253⟩
            have X258 := Ext.trans X231 hx253
            have X259 := Ext.trans X232 hx253
            have X260 := Ext.trans X233 hx253
            have X261 := Ext.trans X234 hx253
            have X262 := Ext.trans X235 hx253
            have X263 := Ext.trans X236 hx253
            have X264 := Ext.trans X237 hx253
            have X265 := Ext.trans X238 hx253
            have X266 := Ext.trans X239 hx253
            have ho267 := ho240.ext hx253
            have s269 := s242.ext hx253
            have ho268 := ho241.ext hx253
            have ho270 := ho243.ext hx253
            have ho271 := ho244.ext hx253
            have ho272 := ho245.ext hx253
            have hb273 := hb246.ext hx253
            have hb274 := hb247.ext hx253
            have X275 := Ext.refl H252
            have hr256 := ho254.rd
            have hr257 := ho255.rd.le (le_P (Le.refl _) (le_OR (Le.refl _)))
            refine Dr.eff 3 _ _ rfl (by intro d h; cases h; exact ⟨rfl, rfl⟩) rfl rfl rfl (EC.of (by intro _ _ h; cases h) (.inl rfl) (WV.call fn14 rfl (eqTable_ok n n ho267.rd (ho268.rd.le (le_P (Le.refl _) (le_OR (Le.refl _)))) hr256 hr257))) (fun v H' h => .inl (h.2)) ?_
            rintro _ H276 ⟨rfl, hx277⟩
            have X278 := Ext.trans X258 hx277
            have X279 := Ext.trans X259 hx277
            have X280 := Ext.trans X260 hx277
            have X281 := Ext.trans X261 hx277
            have X282 := Ext.trans X262 hx277
            have X283 := Ext.trans X263 hx277
            have X284 := Ext.trans X264 hx277
            have X285 := Ext.trans X265 hx277
            have X286 := Ext.trans X266 hx277
            have X287 := Ext.trans X275 hx277
            have ho288 := ho267.ext hx277
            have s290 := s269.ext hx277
            have ho289 := ho268.ext hx277
            have ho291 := ho270.ext hx277
            have ho292 := ho271.ext hx277
            have ho293 := ho272.ext hx277
            have hb294 := hb273.ext hx277
            have hb295 := hb274.ext hx277
            refine Dr.read 4 _ 67 _ rfl rfl rfl rfl rfl (RV.of (by intro _ _ h; cases h) (.inl rfl) (fun _ xd => HV.not rfl)) ?_
            refine Dr.fin rfl ?_
            refine nrm_and ?_
            refine AW.ifn rfl (fun c296 => ?_) (fun c296 => ?_)
            · -- then
              refine AW.rs ?_
              refine AL.val rfl (.inl rfl) (HV.as rfl) ?_
              refine AL.nx ?_
              refine AW.ret ?_
              refine ret_and ?_
              refine post_one rfl rfl ?_ (.inr rfl)
              exfalso; first | omega | exact absurd (hk182.trans hk55.symm) c296 | exact absurd (hm183.trans hm56.symm) c296 | (simp at c296; done) | exact absurd c296 (by simp)
            · -- else
              refine AW.skip ?_
              refine nrm_and ?_
              refine AW.seq ?_
              refine AW.rs ?_
              refine AL.val rfl (.inl rfl) (HV.mv rfl) ?_
              refine AL.val rfl (.inl rfl) (HV.mv rfl) ?_
              refine AL.w rfl (.inl rfl) (WV.call fn18 rfl (toS_ok (hgr.ext X278) (by omega))) ?_
              rintro v297 H298 ⟨hx299, ho300⟩
              have X302 := Ext.trans X278 hx299
              have X303 := Ext.trans X279 hx299
              have X304 := Ext.trans X280 hx299
              have X305 := Ext.trans X281 hx299
              have X306 := Ext.trans X282 hx299
              have X307 := Ext.trans X283 hx299
              have X308 := Ext.trans X284 hx299
              have X309 := Ext.trans X285 hx299
              have X310 := Ext.trans X286 hx299
              have X311 := Ext.trans X287 hx299
              have ho312 := ho288.ext hx299
              have s314 := s290.ext hx299
              have ho313 := ho289.ext hx299
              have ho315 := ho291.ext hx299
              have ho316 := ho292.ext hx299
              have ho317 := ho293.ext hx299
              have hb318 := hb294.ext hx299
              have hb319 := hb295.ext hx299
              have X320 := Ext.refl H298
              have hr301 := ho300.rd
              refine AL.w rfl (.inl rfl) (WV.call fn20 rfl (eqS_ok ho315.rd hr301)) ?_
              rintro _ H321 ⟨rfl, hx322⟩
              have X323 := Ext.trans X302 hx322
              have X324 := Ext.trans X303 hx322
              have X325 := Ext.trans X304 hx322
              have X326 := Ext.trans X305 hx322
              have X327 := Ext.trans X306 hx322
              have X328 := Ext.trans X307 hx322
              have X329 := Ext.trans X308 hx322
              have X330 := Ext.trans X309 hx322
              have X331 := Ext.trans X310 hx322
              have X332 := Ext.trans X311 hx322
              have X333 := Ext.trans X320 hx322
              have ho334 := ho312.ext hx322
              have s336 := s314.ext hx322
              have ho335 := ho313.ext hx322
              have ho337 := ho315.ext hx322
              have ho338 := ho316.ext hx322
              have ho339 := ho317.ext hx322
              have hb340 := hb318.ext hx322
              have hb341 := hb319.ext hx322
              refine AL.val rfl (.inl rfl) (HV.not rfl) ?_
              refine AL.nx ?_
              refine AW.ifn rfl (fun c342 => ?_) (fun c342 => ?_)
              · -- then
                refine AW.rs ?_
                refine AL.val rfl (.inl rfl) (HV.as rfl) ?_
                refine AL.nx ?_
                refine AW.ret ?_
                refine ret_and ?_
                refine post_one rfl rfl ?_ (.inr rfl)
                exfalso; first | omega | exact absurd (hk182.trans hk55.symm) c342 | exact absurd (hm183.trans hm56.symm) c342 | (simp at c342; done) | exact absurd c342 (by simp)
              · -- else
                refine AW.skip ?_
                refine nrm_and ?_
                refine AW.rs ?_
                refine AL.val rfl (.inl rfl) (HV.as rfl) ?_
                refine AL.nx ?_
                refine AW.rs ?_
                refine AL.val rfl (.inl rfl) (HV.lda (cs := [.int .i64 n, u77, v78]) rfl va30 (at_cells hb341 rfl)) ?_
                refine AL.val rfl (.inl rfl) (HV.mv rfl) ?_
                refine AL.w rfl (.inl rfl) (WV.call fn30 rfl (markTable_ok n ho334 ho335 (fun b h1 h2 => by have a1 : (H57.bd ≤ b ∧ b < B79) ∧ b < H80.bd := h1; have a2 : (H57.bd ≤ b ∧ B79 ≤ b) ∧ b < H80.bd := h2; omega) (he18 (by omega)).1 (he18 (by omega)).2 1 (by omega))) ?_
                rintro _ H343 ⟨⟨q344, rfl, hq345, hq346⟩, hx347⟩
                have hx348 := But.mono hx347 (fun b h => (h.elim (fun h => ⟨h.1.1, h.2⟩) (fun h => ⟨h.1.1, h.2⟩) : H57.bd ≤ b ∧ b < H80.bd))
                have X349 := Ext.thru X323 hx348 (fun b hb => Nat.le_trans o72 hb.1)
                have X350 := Ext.thru X324 hx348 (fun b hb => Nat.le_trans o73 hb.1)
                have X351 := Ext.thru X325 hx348 (fun b hb => Nat.le_trans o74 hb.1)
                have X352 := Ext.thru X326 hx348 (fun b hb => Nat.le_trans o75 hb.1)
                have X353 := Ext.thru X327 hx348 (fun b hb => Nat.le_trans o76 hb.1)
                have ho360 := ho337.but hx348 (fun b hb _ e => by have h1 : H117.bd ≤ b ∧ b < H145.bd := hb; have h2 : H57.bd ≤ b ∧ b < H80.bd := e; omega) (fun b hb => by have h2 : H57.bd ≤ b ∧ b < H80.bd := hb; omega)
                have ho361 := ho338.but hx348 (fun b hb _ e => by have h1 : (H145.bd ≤ b ∧ la181 b = 0) ∧ b < H184.bd := hb; have h2 : H57.bd ≤ b ∧ b < H80.bd := e; omega) (fun b hb => by have h2 : H57.bd ≤ b ∧ b < H80.bd := hb; omega)
                have ho362 := ho339.but hx348 (fun b hb _ e => by have h1 : (H145.bd ≤ b ∧ la181 b = 1) ∧ b < H184.bd := hb; have h2 : H57.bd ≤ b ∧ b < H80.bd := e; omega) (fun b hb => by have h2 : H57.bd ≤ b ∧ b < H80.bd := hb; omega)
                have hb363 := hb340.but hx348 (fun e => by have q : H57.bd ≤ b4 ∧ b4 < H80.bd := e; omega)
                refine AL.val rfl (.inl rfl) (HV.as rfl) ?_
                refine AL.nx ?_
                refine AW.rs ?_
                refine AL.val rfl (.inl rfl) (HV.mv rfl) ?_
                refine AL.val rfl (.inl rfl) (HV.mv rfl) ?_
                refine AL.w rfl (.inl rfl) (WV.call fn31 rfl (markS_ok q344 ho360 (by omega))) ?_
                rintro _ H365 ⟨k366, rfl, hk367, hh368, hx369, ho370⟩
                have X371 := Ext.thru X349 hx369 (fun b hb => Nat.le_trans o134 (ho360.blk b hb).1.1)
                have X372 := Ext.thru X350 hx369 (fun b hb => Nat.le_trans o135 (ho360.blk b hb).1.1)
                have X373 := Ext.thru X351 hx369 (fun b hb => Nat.le_trans o136 (ho360.blk b hb).1.1)
                have X374 := Ext.thru X352 hx369 (fun b hb => Nat.le_trans o137 (ho360.blk b hb).1.1)
                have X375 := Ext.thru X353 hx369 (fun b hb => Nat.le_trans o138 (ho360.blk b hb).1.1)
                have ho376 := ho361.but hx369 (fun b hb _ e => by have h1 : (H145.bd ≤ b ∧ la181 b = 0) ∧ b < H184.bd := hb; have h2 : H117.bd ≤ b ∧ b < H145.bd := (ho360.blk b e).1; omega) (fun b hb => (ho360.blk b hb).2.2)
                have ho377 := ho362.but hx369 (fun b hb _ e => by have h1 : (H145.bd ≤ b ∧ la181 b = 1) ∧ b < H184.bd := hb; have h2 : H117.bd ≤ b ∧ b < H145.bd := (ho360.blk b e).1; omega) (fun b hb => (ho360.blk b hb).2.2)
                have hb378 := hb363.but hx369 (fun e => by have q : H117.bd ≤ _ := (ho360.blk _ e).1.1; omega)
                refine AL.val rfl (.inl rfl) (HV.as rfl) ?_
                refine AL.nx ?_
                refine AW.seq ?_
                refine AW.rs ?_
                refine AL.val rfl (.inl rfl) (HV.mv rfl) ?_
                refine AL.val rfl (.inl rfl) (HV.lti rfl rfl) ?_
                refine AL.val rfl (.inl rfl) (HV.mv rfl) ?_
                by_cases c379 : (q344 + (g.length : Int)) < 0
                · -- true
                  have c379_ : decide ((q344 + (g.length : Int)) < 0) = true := decide_eq_true c379
                  rw [c379_]
                  refine AL.off rfl rfl (by decide) rfl ?_
                  refine AL.off rfl rfl (by decide) rfl ?_
                  refine AL.off rfl rfl (by decide) rfl ?_
                  refine AL.off rfl rfl (by decide) rfl ?_
                  refine AL.val rfl (.inl rfl) (HV.pickT rfl rfl) ?_
                  refine AL.val rfl (.inl rfl) (HV.mv rfl) ?_
                  refine AL.off rfl rfl (by decide) rfl ?_
                  refine AL.off rfl rfl (by decide) rfl ?_
                  refine AL.off rfl rfl (by decide) rfl ?_
                  refine AL.off rfl rfl (by decide) rfl ?_
                  refine AL.val rfl (.inl rfl) (HV.pickT rfl rfl) ?_
                  refine AL.val rfl (.inl rfl) (HV.mv rfl) ?_
                  refine AL.off rfl rfl (by decide) rfl ?_
                  refine AL.off rfl rfl (by decide) rfl ?_
                  refine AL.off rfl rfl (by decide) rfl ?_
                  refine AL.val rfl (.inl rfl) (HV.pickT rfl rfl) ?_
                  refine AL.nx ?_
                  refine AW.cond rfl (fun _ => ?_) (fun h => by cases h)
                  refine AW.rs ?_
                  refine AL.val rfl (.inl rfl) (HV.as rfl) ?_
                  refine AL.nx ?_
                  refine AW.ret ?_
                  refine ret_and ?_
                  refine post_one rfl rfl ?_ (.inr rfl)
                  exfalso; first | omega | exact absurd (hk182.trans hk55.symm) c379 | exact absurd (hm183.trans hm56.symm) c379 | (simp at c379; done) | exact absurd c379 (by simp)
                · -- false
                  have c379_ : decide ((q344 + (g.length : Int)) < 0) = false := decide_eq_false c379
                  rw [c379_]
                  refine AL.val rfl (.inr ⟨_, _, _, rfl, rfl, rfl⟩) (HV.mv rfl) ?_
                  refine AL.val rfl (.inr ⟨_, _, _, rfl, rfl, rfl⟩) (HV.mv rfl) ?_
                  refine AL.w rfl (.inr ⟨_, _, _, rfl, rfl, rfl⟩) (WV.call fn29 rfl (eqSS_ok (rd_ofO ho376.rd) (ho59.ext X375))) ?_
                  rintro _ H381 ⟨rfl, hx382⟩
                  have X383 := Ext.trans X371 hx382
                  have X384 := Ext.trans X372 hx382
                  have X385 := Ext.trans X373 hx382
                  have X386 := Ext.trans X374 hx382
                  have X387 := Ext.trans X375 hx382
                  have ho388 := ho376.ext hx382
                  have ho389 := ho377.ext hx382
                  have hb390 := hb378.ext hx382
                  refine AL.val rfl (.inr ⟨_, _, _, rfl, rfl, rfl⟩) (HV.not rfl) ?_
                  refine AL.val rfl (.inl rfl) (HV.pickF rfl rfl) ?_
                  refine AL.val rfl (.inl rfl) (HV.mv rfl) ?_
                  by_cases c391 : k179 = k52
                  · -- false
                    have c391_ : (!decide (k179 = k52)) = false := by rw [decide_eq_true c391]; rfl
                    rw [c391_]
                    refine AL.val rfl (.inr ⟨_, _, _, rfl, rfl, rfl⟩) (HV.mv rfl) ?_
                    refine AL.val rfl (.inr ⟨_, _, _, rfl, rfl, rfl⟩) (HV.mv rfl) ?_
                    refine AL.w rfl (.inr ⟨_, _, _, rfl, rfl, rfl⟩) (WV.call fn29 rfl (eqSS_ok (rd_ofO ho389.rd) (ho60.ext X387))) ?_
                    rintro _ H392 ⟨rfl, hx393⟩
                    have X394 := Ext.trans X383 hx393
                    have X395 := Ext.trans X384 hx393
                    have X396 := Ext.trans X385 hx393
                    have X397 := Ext.trans X386 hx393
                    have X398 := Ext.trans X387 hx393
                    have ho399 := ho388.ext hx393
                    have ho400 := ho389.ext hx393
                    have hb401 := hb390.ext hx393
                    refine AL.val rfl (.inr ⟨_, _, _, rfl, rfl, rfl⟩) (HV.not rfl) ?_
                    refine AL.val rfl (.inl rfl) (HV.pickF rfl rfl) ?_
                    refine AL.val rfl (.inl rfl) (HV.mv rfl) ?_
                    by_cases c402 : m180 = m53
                    · -- false
                      have c402_ : (!decide (m180 = m53)) = false := by rw [decide_eq_true c402]; rfl
                      rw [c402_]
                      refine AL.val rfl (.inr ⟨_, _, _, rfl, rfl, rfl⟩) (HV.mv rfl) ?_
                      refine AL.val rfl (.inr ⟨_, _, _, rfl, rfl, rfl⟩) (HV.mv rfl) ?_
                      refine AL.val rfl (.inr ⟨_, _, _, rfl, rfl, rfl⟩) (HV.nei rfl rfl) ?_
                      refine AL.val rfl (.inl rfl) (HV.pickF rfl rfl) ?_
                      refine AL.nx ?_
                      refine AW.ifd rfl (fun c403 => ?_) (fun c403 => ?_)
                      · -- then
                        refine AW.rs ?_
                        refine AL.val rfl (.inl rfl) (HV.as rfl) ?_
                        refine AL.nx ?_
                        refine AW.ret ?_
                        refine ret_and ?_
                        refine post_one rfl rfl ?_ (.inr rfl)
                        exfalso; first | omega | exact absurd (hk182.trans hk55.symm) c403 | exact absurd (hm183.trans hm56.symm) c403 | (simp at c403; done) | exact absurd c403 (by simp)
                      · -- else
                        refine AW.skip ?_
                        refine nrm_and ?_
                        refine AW.rs ?_
                        refine AL.val rfl (.inl rfl) (HV.as rfl) ?_
                        refine AL.nx ?_
                        refine AW.rs ?_
                        refine AL.val rfl (.inl rfl) (HV.mv rfl) ?_
                        refine AL.val rfl (.inl rfl) (HV.mv rfl) ?_
                        refine AL.w rfl (.inl rfl) (WV.call fn32 rfl (markSS2_ok ho399 hsa190 1 (by omega))) ?_
                        rintro _ H404 ⟨⟨k405, rfl, hs406, hh407, ho409⟩, hx408⟩
                        have hx410 := But.mono hx408 (fun b h => (⟨h.1.1, h.1.2, h.2⟩ : H145.bd ≤ b ∧ la181 b = 0 ∧ b < H184.bd))
                        have X411 := Ext.thru X394 hx410 (fun b hb => Nat.le_trans o165 hb.1)
                        have X412 := Ext.thru X395 hx410 (fun b hb => Nat.le_trans o166 hb.1)
                        have X413 := Ext.thru X396 hx410 (fun b hb => Nat.le_trans o167 hb.1)
                        have X414 := Ext.thru X397 hx410 (fun b hb => Nat.le_trans o168 hb.1)
                        have X415 := Ext.thru X398 hx410 (fun b hb => Nat.le_trans o169 hb.1)
                        have ho416 := ho400.but hx410 (fun b hb _ e => by have h1 : (H145.bd ≤ b ∧ la181 b = 1) ∧ b < H184.bd := hb; have h2 : H145.bd ≤ b ∧ la181 b = 0 ∧ b < H184.bd := e; omega) (fun b hb => by have h2 : H145.bd ≤ b ∧ la181 b = 0 ∧ b < H184.bd := hb; omega)
                        have hb417 := hb401.but hx410 (fun e => by have q : H145.bd ≤ b4 ∧ la181 b4 = 0 ∧ b4 < H184.bd := e; omega)
                        refine AL.val rfl (.inl rfl) (HV.as rfl) ?_
                        refine AL.nx ?_
                        refine AW.rs ?_
                        refine AL.val rfl (.inl rfl) (HV.mv rfl) ?_
                        refine AL.val rfl (.inl rfl) (HV.mv rfl) ?_
                        refine AL.w rfl (.inl rfl) (WV.call fn32 rfl (markSS2_ok ho416 hsb191 (1 + offs k179 k179.length) (by omega))) ?_
                        rintro _ H418 ⟨⟨k419, rfl, hs420, hh421, ho423⟩, hx422⟩
                        have hx424 := But.mono hx422 (fun b h => (⟨h.1.1, h.1.2, h.2⟩ : H145.bd ≤ b ∧ la181 b = 1 ∧ b < H184.bd))
                        have X425 := Ext.thru X411 hx424 (fun b hb => Nat.le_trans o165 hb.1)
                        have X426 := Ext.thru X412 hx424 (fun b hb => Nat.le_trans o166 hb.1)
                        have X427 := Ext.thru X413 hx424 (fun b hb => Nat.le_trans o167 hb.1)
                        have X428 := Ext.thru X414 hx424 (fun b hb => Nat.le_trans o168 hb.1)
                        have X429 := Ext.thru X415 hx424 (fun b hb => Nat.le_trans o169 hb.1)
                        have ho430 := ho409.but hx424 (fun b hb _ e => by have h1 : (H145.bd ≤ b ∧ la181 b = 0) ∧ b < H184.bd := hb; have h2 : H145.bd ≤ b ∧ la181 b = 1 ∧ b < H184.bd := e; omega) (fun b hb => by have h2 : H145.bd ≤ b ∧ la181 b = 1 ∧ b < H184.bd := hb; omega)
                        have hb431 := hb417.but hx424 (fun e => by have q : H145.bd ≤ b4 ∧ la181 b4 = 1 ∧ b4 < H184.bd := e; omega)
                        refine AL.val rfl (.inl rfl) (HV.as rfl) ?_
                        refine AL.nx ?_
                        refine AW.rs ?_
                        refine AL.val rfl (.inl rfl) (HV.as rfl) ?_
                        refine AL.nx ?_
                        refine AW.rs ?_
                        refine AL.val rfl (.inl rfl) (HV.mv rfl) ?_
                        refine AL.val rfl (.inl rfl) (HV.mv rfl) ?_
                        refine AL.w rfl (.inl rfl) (WV.call fn33 rfl (heldSS_ok 1 (rd_ofO ho430.rd) (by omega) hsa190 hs406 hh407)) ?_
                        rintro _ H432 ⟨rfl, hx433⟩
                        have X434 := Ext.trans X425 hx433
                        have X435 := Ext.trans X426 hx433
                        have X436 := Ext.trans X427 hx433
                        have X437 := Ext.trans X428 hx433
                        have X438 := Ext.trans X429 hx433
                        have ho439 := ho430.ext hx433
                        have ho440 := ho423.ext hx433
                        have hb441 := hb431.ext hx433
                        refine AL.val rfl (.inl rfl) (HV.as rfl) ?_
                        refine AL.nx ?_
                        refine AW.seq ?_
                        refine AW.rs ?_
                        refine AL.val rfl (.inl rfl) (HV.mv rfl) ?_
                        refine AL.val rfl (.inl rfl) (HV.lti rfl rfl) ?_
                        refine AL.nx ?_
                        refine AW.ifd rfl (fun c442 => ?_) (fun c442 => ?_)
                        · -- then
                          refine AW.rs ?_
                          refine AL.val rfl (.inl rfl) (HV.as rfl) ?_
                          refine AL.nx ?_
                          refine AW.ret ?_
                          refine ret_and ?_
                          refine post_one rfl rfl ?_ (.inr rfl)
                          exfalso; first | omega | exact absurd (hk182.trans hk55.symm) c442 | exact absurd (hm183.trans hm56.symm) c442 | (simp at c442; done) | exact absurd c442 (by simp)
                        · -- else
                          refine AW.skip ?_
                          refine nrm_and ?_
                          refine AW.rs ?_
                          refine AL.val rfl (.inl rfl) (HV.mv rfl) ?_
                          refine AL.val rfl (.inl rfl) (HV.mv rfl) ?_
                          refine AL.w rfl (.inl rfl) (WV.call fn33 rfl (heldSS_ok (1 + offs k179 k179.length) (rd_ofO ho440.rd) (by omega) hsb191 hs420 hh421)) ?_
                          rintro _ H443 ⟨rfl, hx444⟩
                          have X445 := Ext.trans X434 hx444
                          have X446 := Ext.trans X435 hx444
                          have X447 := Ext.trans X436 hx444
                          have X448 := Ext.trans X437 hx444
                          have X449 := Ext.trans X438 hx444
                          have ho450 := ho439.ext hx444
                          have ho451 := ho440.ext hx444
                          have hb452 := hb441.ext hx444
                          refine AL.val rfl (.inl rfl) (HV.as rfl) ?_
                          refine AL.nx ?_
                          refine AW.seq ?_
                          refine AW.rs ?_
                          refine AL.val rfl (.inl rfl) (HV.mv rfl) ?_
                          refine AL.val rfl (.inl rfl) (HV.lti rfl rfl) ?_
                          refine AL.nx ?_
                          refine AW.ifd rfl (fun c453 => ?_) (fun c453 => ?_)
                          · -- then
                            refine AW.rs ?_
                            refine AL.val rfl (.inl rfl) (HV.as rfl) ?_
                            refine AL.nx ?_
                            refine AW.ret ?_
                            refine ret_and ?_
                            refine post_one rfl rfl ?_ (.inr rfl)
                            exfalso; first | omega | exact absurd (hk182.trans hk55.symm) c453 | exact absurd (hm183.trans hm56.symm) c453 | (simp at c453; done) | exact absurd c453 (by simp)
                          · -- else
                            refine AW.skip ?_
                            refine nrm_and ?_
                            refine AW.seq ?_
                            refine AW.rs ?_
                            refine AL.val rfl (.inl rfl) (HV.mv rfl) ?_
                            refine AL.val rfl (.inl rfl) (HV.mv rfl) ?_
                            refine AL.val rfl (.inl rfl) (HV.nei rfl rfl) ?_
                            refine AL.nx ?_
                            refine AW.ifd rfl (fun c454 => ?_) (fun c454 => ?_)
                            · -- then
                              refine AW.rs ?_
                              refine AL.val rfl (.inl rfl) (HV.as rfl) ?_
                              refine AL.nx ?_
                              refine AW.ret ?_
                              refine ret_and ?_
                              refine post_one rfl rfl ?_ (.inr rfl)
                              exfalso; first | omega | exact absurd (hk182.trans hk55.symm) c454 | exact absurd (hm183.trans hm56.symm) c454 | (simp at c454; done) | exact absurd c454 (by simp)
                            · -- else
                              refine AW.skip ?_
                              refine nrm_and ?_
                              refine AW.rs ?_
                              refine AL.val rfl (.inl rfl) (HV.lda (cs := [.int .i64 n, vs, v]) rfl va25 (at_cells hb452 rfl)) ?_
                              refine AL.w rfl (.inl rfl) (WV.call fn12 rfl (toTable_ok n (hs.ext X445) (hr.ext X445) (he18 (by omega)).1 (he18 (by omega)).2)) ?_
                              rintro _ H457 ⟨⟨u455, v456, rfl, ho459, ho460⟩, hx458⟩
                              have X463 := Ext.trans X445 hx458
                              have X464 := Ext.trans X446 hx458
                              have X465 := Ext.trans X447 hx458
                              have X466 := Ext.trans X448 hx458
                              have X467 := Ext.trans X449 hx458
                              have ho468 := ho450.ext hx458
                              have ho469 := ho451.ext hx458
                              have hb470 := hb452.ext hx458
                              have X471 := Ext.refl H457
                              have hr461 := ho459.rd
                              have hr462 := ho460.rd.le (le_P (Le.refl _) (le_OR (Le.refl _)))
                              refine AL.val rfl (.inl rfl) (HV.mv rfl) ?_
                              refine AL.w rfl (.inl rfl) (WV.call fn18 rfl (toS_ok (hgr.ext X463) (by omega))) ?_
                              rintro v472 H473 ⟨hx474, ho475⟩
                              have X477 := Ext.trans X463 hx474
                              have X478 := Ext.trans X464 hx474
                              have X479 := Ext.trans X465 hx474
                              have X480 := Ext.trans X466 hx474
                              have X481 := Ext.trans X467 hx474
                              have X482 := Ext.trans X471 hx474
                              have ho483 := ho468.ext hx474
                              have ho484 := ho469.ext hx474
                              have hb485 := hb470.ext hx474
                              have X486 := Ext.refl H473
                              have hr476 := ho475.rd
                              have y487 := hb485.lt
                              have o488 := X477.bd
                              have o489 := X478.bd
                              have o490 := X479.bd
                              have o491 := X480.bd
                              have o492 := X481.bd
                              have o493 := X482.bd
                              have o494 := X486.bd
                              have a495 := ho483.ltb
                              have s496 := ho483.lo
                              have a497 := ho484.ltb
                              have s498 := ho484.lo
                              refine AL.w rfl (.inl rfl) (WV.call fn28 rfl (implVW_ok n (hr461.ext X482) (hr462.ext X482) hr476)) ?_
                              rintro _ H506 ⟨⟨u499, v500, k501, m502, la503, rfl, hk504, hm505, ho508, ho509⟩, hx507⟩
                              have X514 := Ext.trans X477 hx507
                              have X515 := Ext.trans X478 hx507
                              have X516 := Ext.trans X479 hx507
                              have X517 := Ext.trans X480 hx507
                              have X518 := Ext.trans X481 hx507
                              have X519 := Ext.trans X482 hx507
                              have X520 := Ext.trans X486 hx507
                              have s522 := s496.ext hx507
                              have ho521 := ho483.ext hx507
                              have s524 := s498.ext hx507
                              have ho523 := ho484.ext hx507
                              have hb525 := hb485.ext hx507
                              have X526 := Ext.refl H506
                              have hr510 := (rd_ofO ho508.rd).okk (ok' := fun _ => True) (fun _ _ _ => trivial)
                              have hr511 := (rd_ofO ho509.rd).okk (ok' := fun _ => True) (fun _ _ _ => trivial)
                              refine AL.val rfl (.inl rfl) (HV.mv rfl) ?_
                              refine AL.val rfl (.inl rfl) (HV.ex rfl rfl) ?_
                              refine AL.val rfl (.inl rfl) (HV.ex rfl rfl) ?_
                              refine AL.val rfl (.inl rfl) (HV.ex rfl rfl) ?_
                              refine AL.val rfl (.inl rfl) (HV.as rfl) ?_
                              refine AL.val rfl (.inl rfl) (HV.as rfl) ?_
                              refine AL.val rfl (.inl rfl) (HV.as rfl) ?_
                              refine AL.nx ?_
                              refine AW.seq ?_
                              refine AW.rs ?_
                              refine AL.val rfl (.inl rfl) (HV.mv rfl) ?_
                              refine AL.val rfl (.inl rfl) (HV.mv rfl) ?_
                              refine AL.w rfl (.inl rfl) (WV.call fn29 rfl (eqSS_ok hr510 (ho59.ext X518))) ?_
                              rintro _ H527 ⟨rfl, hx528⟩
                              have X529 := Ext.trans X514 hx528
                              have X530 := Ext.trans X515 hx528
                              have X531 := Ext.trans X516 hx528
                              have X532 := Ext.trans X517 hx528
                              have X533 := Ext.trans X518 hx528
                              have X534 := Ext.trans X519 hx528
                              have X535 := Ext.trans X520 hx528
                              have X536 := Ext.trans X526 hx528
                              have s538 := s522.ext hx528
                              have ho537 := ho521.ext hx528
                              have s540 := s524.ext hx528
                              have ho539 := ho523.ext hx528
                              have hb541 := hb525.ext hx528
                              refine AL.val rfl (.inl rfl) (HV.not rfl) ?_
                              refine AL.val rfl (.inl rfl) (HV.mv rfl) ?_
                              by_cases c542 : k501 = k52
                              · -- false
                                have c542_ : (!decide (k501 = k52)) = false := by rw [decide_eq_true c542]; rfl
                                rw [c542_]
                                refine AL.val rfl (.inr ⟨_, _, _, rfl, rfl, rfl⟩) (HV.mv rfl) ?_
                                refine AL.val rfl (.inr ⟨_, _, _, rfl, rfl, rfl⟩) (HV.mv rfl) ?_
                                refine AL.w rfl (.inr ⟨_, _, _, rfl, rfl, rfl⟩) (WV.call fn29 rfl (eqSS_ok (hr511.ext X536) (ho60.ext X533))) ?_
                                rintro _ H543 ⟨rfl, hx544⟩
                                have X545 := Ext.trans X529 hx544
                                have X546 := Ext.trans X530 hx544
                                have X547 := Ext.trans X531 hx544
                                have X548 := Ext.trans X532 hx544
                                have X549 := Ext.trans X533 hx544
                                have X550 := Ext.trans X534 hx544
                                have X551 := Ext.trans X535 hx544
                                have X552 := Ext.trans X536 hx544
                                have s554 := s538.ext hx544
                                have ho553 := ho537.ext hx544
                                have s556 := s540.ext hx544
                                have ho555 := ho539.ext hx544
                                have hb557 := hb541.ext hx544
                                refine AL.val rfl (.inr ⟨_, _, _, rfl, rfl, rfl⟩) (HV.not rfl) ?_
                                refine AL.val rfl (.inl rfl) (HV.pickF rfl rfl) ?_
                                refine AL.val rfl (.inl rfl) (HV.mv rfl) ?_
                                by_cases c558 : m502 = m53
                                · -- false
                                  have c558_ : (!decide (m502 = m53)) = false := by rw [decide_eq_true c558]; rfl
                                  rw [c558_]
                                  refine AL.val rfl (.inr ⟨_, _, _, rfl, rfl, rfl⟩) (HV.mv rfl) ?_
                                  refine AL.val rfl (.inr ⟨_, _, _, rfl, rfl, rfl⟩) (HV.mv rfl) ?_
                                  refine AL.val rfl (.inr ⟨_, _, _, rfl, rfl, rfl⟩) (HV.nei rfl rfl) ?_
                                  refine AL.val rfl (.inl rfl) (HV.pickF rfl rfl) ?_
                                  refine AL.nx ?_
                                  refine AW.ifd rfl (fun c559 => ?_) (fun c559 => ?_)
                                  · -- then
                                    refine AW.rs ?_
                                    refine AL.val rfl (.inl rfl) (HV.as rfl) ?_
                                    refine AL.nx ?_
                                    refine AW.ret ?_
                                    refine ret_and ?_
                                    refine post_one rfl rfl ?_ (.inr rfl)
                                    exfalso; first | omega | exact absurd (hk182.trans hk55.symm) c559 | exact absurd (hk504.trans hk55.symm) c559 | exact absurd (hm183.trans hm56.symm) c559 | exact absurd (hm505.trans hm56.symm) c559 | (simp at c559; done) | exact absurd c559 (by simp)
                                  · -- else
                                    refine AW.skip ?_
                                    refine nrm_and ?_
                                    refine AW.rs ?_
                                    refine AL.val rfl (.inl rfl) (HV.as rfl) ?_
                                    refine AL.nx ?_
                                    refine AW.rs ?_
                                    refine AL.val rfl (.inl rfl) (HV.mv rfl) ?_
                                    refine AL.val rfl (.inl rfl) (HV.mv rfl) ?_
                                    refine AL.w rfl (.inl rfl) (WV.call fn33 rfl (heldSS_ok 1 (rd_ofO ho553.rd) (by omega) hsa190 hs406 hh407)) ?_
                                    rintro _ H560 ⟨rfl, hx561⟩
                                    have X562 := Ext.trans X545 hx561
                                    have X563 := Ext.trans X546 hx561
                                    have X564 := Ext.trans X547 hx561
                                    have X565 := Ext.trans X548 hx561
                                    have X566 := Ext.trans X549 hx561
                                    have X567 := Ext.trans X550 hx561
                                    have X568 := Ext.trans X551 hx561
                                    have X569 := Ext.trans X552 hx561
                                    have s571 := s554.ext hx561
                                    have ho570 := ho553.ext hx561
                                    have s573 := s556.ext hx561
                                    have ho572 := ho555.ext hx561
                                    have hb574 := hb557.ext hx561
                                    refine AL.val rfl (.inl rfl) (HV.as rfl) ?_
                                    refine AL.nx ?_
                                    refine AW.seq ?_
                                    refine AW.rs ?_
                                    refine AL.val rfl (.inl rfl) (HV.mv rfl) ?_
                                    refine AL.val rfl (.inl rfl) (HV.lti rfl rfl) ?_
                                    refine AL.nx ?_
                                    refine AW.ifd rfl (fun c575 => ?_) (fun c575 => ?_)
                                    · -- then
                                      refine AW.rs ?_
                                      refine AL.val rfl (.inl rfl) (HV.as rfl) ?_
                                      refine AL.nx ?_
                                      refine AW.ret ?_
                                      refine ret_and ?_
                                      refine post_one rfl rfl ?_ (.inr rfl)
                                      exfalso; first | omega | exact absurd (hk182.trans hk55.symm) c575 | exact absurd (hk504.trans hk55.symm) c575 | exact absurd (hm183.trans hm56.symm) c575 | exact absurd (hm505.trans hm56.symm) c575 | (simp at c575; done) | exact absurd c575 (by simp)
                                    · -- else
                                      refine AW.skip ?_
                                      refine nrm_and ?_
                                      refine AW.rs ?_
                                      refine AL.val rfl (.inl rfl) (HV.mv rfl) ?_
                                      refine AL.val rfl (.inl rfl) (HV.mv rfl) ?_
                                      refine AL.w rfl (.inl rfl) (WV.call fn33 rfl (heldSS_ok (1 + offs k179 k179.length) (rd_ofO ho572.rd) (by omega) hsb191 hs420 hh421)) ?_
                                      rintro _ H576 ⟨rfl, hx577⟩
                                      have X578 := Ext.trans X562 hx577
                                      have X579 := Ext.trans X563 hx577
                                      have X580 := Ext.trans X564 hx577
                                      have X581 := Ext.trans X565 hx577
                                      have X582 := Ext.trans X566 hx577
                                      have X583 := Ext.trans X567 hx577
                                      have X584 := Ext.trans X568 hx577
                                      have X585 := Ext.trans X569 hx577
                                      have s587 := s571.ext hx577
                                      have ho586 := ho570.ext hx577
                                      have s589 := s573.ext hx577
                                      have ho588 := ho572.ext hx577
                                      have hb590 := hb574.ext hx577
                                      refine AL.val rfl (.inl rfl) (HV.as rfl) ?_
                                      refine AL.nx ?_
                                      refine AW.seq ?_
                                      refine AW.rs ?_
                                      refine AL.val rfl (.inl rfl) (HV.mv rfl) ?_
                                      refine AL.val rfl (.inl rfl) (HV.lti rfl rfl) ?_
                                      refine AL.nx ?_
                                      refine AW.ifd rfl (fun c591 => ?_) (fun c591 => ?_)
                                      · -- then
                                        refine AW.rs ?_
                                        refine AL.val rfl (.inl rfl) (HV.as rfl) ?_
                                        refine AL.nx ?_
                                        refine AW.ret ?_
                                        refine ret_and ?_
                                        refine post_one rfl rfl ?_ (.inr rfl)
                                        exfalso; first | omega | exact absurd (hk182.trans hk55.symm) c591 | exact absurd (hk504.trans hk55.symm) c591 | exact absurd (hm183.trans hm56.symm) c591 | exact absurd (hm505.trans hm56.symm) c591 | (simp at c591; done) | exact absurd c591 (by simp)
                                      · -- else
                                        refine AW.skip ?_
                                        refine nrm_and ?_
                                        refine AW.seq ?_
                                        refine AW.rs ?_
                                        refine AL.val rfl (.inl rfl) (HV.mv rfl) ?_
                                        refine AL.val rfl (.inl rfl) (HV.mv rfl) ?_
                                        refine AL.val rfl (.inl rfl) (HV.nei rfl rfl) ?_
                                        refine AL.nx ?_
                                        refine AW.ifd rfl (fun c592 => ?_) (fun c592 => ?_)
                                        · -- then
                                          refine AW.rs ?_
                                          refine AL.val rfl (.inl rfl) (HV.as rfl) ?_
                                          refine AL.nx ?_
                                          refine AW.ret ?_
                                          refine ret_and ?_
                                          refine post_one rfl rfl ?_ (.inr rfl)
                                          exfalso; first | omega | exact absurd (hk182.trans hk55.symm) c592 | exact absurd (hk504.trans hk55.symm) c592 | exact absurd (hm183.trans hm56.symm) c592 | exact absurd (hm505.trans hm56.symm) c592 | (simp at c592; done) | exact absurd c592 (by simp)
                                        · -- else
                                          refine AW.skip ?_
                                          refine nrm_and ?_
                                          refine AW.rs ?_
                                          refine AL.val rfl (.inl rfl) (HV.as rfl) ?_
                                          refine AL.nx ?_
                                          refine AW.ret ?_
                                          refine post_one rfl rfl ?_ (.inr rfl)
                                          exact ⟨rfl, X578⟩
                                · -- true
                                  have c558_ : (!decide (m502 = m53)) = true := by rw [decide_eq_false c558]; rfl
                                  rw [c558_]
                                  refine AL.off rfl rfl (by decide) rfl ?_
                                  refine AL.off rfl rfl (by decide) rfl ?_
                                  refine AL.off rfl rfl (by decide) rfl ?_
                                  refine AL.val rfl (.inl rfl) (HV.pickT rfl rfl) ?_
                                  refine AL.nx ?_
                                  refine AW.cond rfl (fun _ => ?_) (fun h => by cases h)
                                  refine AW.rs ?_
                                  refine AL.val rfl (.inl rfl) (HV.as rfl) ?_
                                  refine AL.nx ?_
                                  refine AW.ret ?_
                                  refine ret_and ?_
                                  refine post_one rfl rfl ?_ (.inr rfl)
                                  exfalso; first | omega | exact absurd (hk182.trans hk55.symm) c558 | exact absurd (hk504.trans hk55.symm) c558 | exact absurd (hm183.trans hm56.symm) c558 | exact absurd (hm505.trans hm56.symm) c558 | (simp at c558; done) | exact absurd c558 (by simp)
                              · -- true
                                have c542_ : (!decide (k501 = k52)) = true := by rw [decide_eq_false c542]; rfl
                                rw [c542_]
                                refine AL.off rfl rfl (by decide) rfl ?_
                                refine AL.off rfl rfl (by decide) rfl ?_
                                refine AL.off rfl rfl (by decide) rfl ?_
                                refine AL.off rfl rfl (by decide) rfl ?_
                                refine AL.val rfl (.inl rfl) (HV.pickT rfl rfl) ?_
                                refine AL.val rfl (.inl rfl) (HV.mv rfl) ?_
                                refine AL.off rfl rfl (by decide) rfl ?_
                                refine AL.off rfl rfl (by decide) rfl ?_
                                refine AL.off rfl rfl (by decide) rfl ?_
                                refine AL.val rfl (.inl rfl) (HV.pickT rfl rfl) ?_
                                refine AL.nx ?_
                                refine AW.cond rfl (fun _ => ?_) (fun h => by cases h)
                                refine AW.rs ?_
                                refine AL.val rfl (.inl rfl) (HV.as rfl) ?_
                                refine AL.nx ?_
                                refine AW.ret ?_
                                refine ret_and ?_
                                refine post_one rfl rfl ?_ (.inr rfl)
                                exfalso; first | omega | exact absurd (hk182.trans hk55.symm) c542 | exact absurd (hk504.trans hk55.symm) c542 | exact absurd (hm183.trans hm56.symm) c542 | exact absurd (hm505.trans hm56.symm) c542 | (simp at c542; done) | exact absurd c542 (by simp)
                    · -- true
                      have c402_ : (!decide (m180 = m53)) = true := by rw [decide_eq_false c402]; rfl
                      rw [c402_]
                      refine AL.off rfl rfl (by decide) rfl ?_
                      refine AL.off rfl rfl (by decide) rfl ?_
                      refine AL.off rfl rfl (by decide) rfl ?_
                      refine AL.val rfl (.inl rfl) (HV.pickT rfl rfl) ?_
                      refine AL.nx ?_
                      refine AW.cond rfl (fun _ => ?_) (fun h => by cases h)
                      refine AW.rs ?_
                      refine AL.val rfl (.inl rfl) (HV.as rfl) ?_
                      refine AL.nx ?_
                      refine AW.ret ?_
                      refine ret_and ?_
                      refine post_one rfl rfl ?_ (.inr rfl)
                      exfalso; first | omega | exact absurd (hk182.trans hk55.symm) c402 | exact absurd (hk504.trans hk55.symm) c402 | exact absurd (hm183.trans hm56.symm) c402 | exact absurd (hm505.trans hm56.symm) c402 | (simp at c402; done) | exact absurd c402 (by simp)
                  · -- true
                    have c391_ : (!decide (k179 = k52)) = true := by rw [decide_eq_false c391]; rfl
                    rw [c391_]
                    refine AL.off rfl rfl (by decide) rfl ?_
                    refine AL.off rfl rfl (by decide) rfl ?_
                    refine AL.off rfl rfl (by decide) rfl ?_
                    refine AL.off rfl rfl (by decide) rfl ?_
                    refine AL.val rfl (.inl rfl) (HV.pickT rfl rfl) ?_
                    refine AL.val rfl (.inl rfl) (HV.mv rfl) ?_
                    refine AL.off rfl rfl (by decide) rfl ?_
                    refine AL.off rfl rfl (by decide) rfl ?_
                    refine AL.off rfl rfl (by decide) rfl ?_
                    refine AL.val rfl (.inl rfl) (HV.pickT rfl rfl) ?_
                    refine AL.nx ?_
                    refine AW.cond rfl (fun _ => ?_) (fun h => by cases h)
                    refine AW.rs ?_
                    refine AL.val rfl (.inl rfl) (HV.as rfl) ?_
                    refine AL.nx ?_
                    refine AW.ret ?_
                    refine ret_and ?_
                    refine post_one rfl rfl ?_ (.inr rfl)
                    exfalso; first | omega | exact absurd (hk182.trans hk55.symm) c391 | exact absurd (hk504.trans hk55.symm) c391 | exact absurd (hm183.trans hm56.symm) c391 | exact absurd (hm505.trans hm56.symm) c391 | (simp at c391; done) | exact absurd c391 (by simp)
        · -- true
          have c248_ : (!decide (m180 = m53)) = true := by rw [decide_eq_false c248]; rfl
          rw [c248_]
          refine AL.off rfl rfl (by decide) rfl ?_
          refine AL.off rfl rfl (by decide) rfl ?_
          refine AL.off rfl rfl (by decide) rfl ?_
          refine AL.val rfl (.inl rfl) (HV.pickT rfl rfl) ?_
          refine AL.nx ?_
          refine AW.cond rfl (fun _ => ?_) (fun h => by cases h)
          refine AW.rs ?_
          refine AL.val rfl (.inl rfl) (HV.as rfl) ?_
          refine AL.nx ?_
          refine AW.ret ?_
          refine ret_and ?_
          refine post_one rfl rfl ?_ (.inr rfl)
          exfalso; first | omega | exact absurd (hk182.trans hk55.symm) c248 | exact absurd (hk504.trans hk55.symm) c248 | exact absurd (hm183.trans hm56.symm) c248 | exact absurd (hm505.trans hm56.symm) c248 | (simp at c248; done) | exact absurd c248 (by simp)
      · -- true
        have c228_ : (!decide (k179 = k52)) = true := by rw [decide_eq_false c228]; rfl
        rw [c228_]
        refine AL.off rfl rfl (by decide) rfl ?_
        refine AL.off rfl rfl (by decide) rfl ?_
        refine AL.off rfl rfl (by decide) rfl ?_
        refine AL.off rfl rfl (by decide) rfl ?_
        refine AL.val rfl (.inl rfl) (HV.pickT rfl rfl) ?_
        refine AL.val rfl (.inl rfl) (HV.mv rfl) ?_
        refine AL.off rfl rfl (by decide) rfl ?_
        refine AL.off rfl rfl (by decide) rfl ?_
        refine AL.off rfl rfl (by decide) rfl ?_
        refine AL.val rfl (.inl rfl) (HV.pickT rfl rfl) ?_
        refine AL.nx ?_
        refine AW.cond rfl (fun _ => ?_) (fun h => by cases h)
        refine AW.rs ?_
        refine AL.val rfl (.inl rfl) (HV.as rfl) ?_
        refine AL.nx ?_
        refine AW.ret ?_
        refine ret_and ?_
        refine post_one rfl rfl ?_ (.inr rfl)
        exfalso; first | omega | exact absurd (hk182.trans hk55.symm) c228 | exact absurd (hk504.trans hk55.symm) c228 | exact absurd (hm183.trans hm56.symm) c228 | exact absurd (hm505.trans hm56.symm) c228 | (simp at c228; done) | exact absurd c228 (by simp)
end Go.Proofs.Ytfjihanfiliniaa.VC
