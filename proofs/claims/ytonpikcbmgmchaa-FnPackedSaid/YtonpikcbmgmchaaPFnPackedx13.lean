-- By xprint.py and given.py (wip/gen): the kit's print of this seat, some functions' contracts given.
import Derived.Test.YtonpikcbmgmchaaPFnPackedx0
import Derived.Test.YtonpikcbmgmchaaPFnPackedx5
import Derived.Test.YtonpikcbmgmchaaPFnPackedx10
import Derived.Test.YtonpikcbmgmchaaPFnPackedx12
namespace Go.Proofs.Ytonpikcbmgmchaa.PFnPacked
open Go.RowKit Go.Proofs.YtonpikcbmgmchaaW.PrintWords Go.Proofs.YtonpikcbmgmchaaW.PrintLast Go.Proofs.YtonpikcbmgmchaaW.PrintMore
attribute [local go_sem] max2_int min2_int max_two min_two max_three min_three max_four min_four   -- for this text's walks alone
set_option linter.unusedVariables false
set_option linter.unusedSimpArgs false

/-! ### spec_PackSecrets: function 55 -/
mutual
def spec_PackSecrets.j0 : Nat → Int → List Int → List Int → Int → Bool → Option (List Int × Int)
 | 0, _, _, _, _, _ => none
 | k + 1, x0, x1, x2, x8, x34 => if x34 = true then (some ((([] : List Int)), 2)) else (if x8 > (wrap64 (x0 - 1)) then (some ((([] : List Int)), 4)) else (spec_PackSecrets.l0 k x0 x1 x2 (([] : List Int)) 0))
def spec_PackSecrets.l0 : Nat → Int → List Int → List Int → List Int → Int → Option (List Int × Int)
 | 0, _, _, _, _, _ => none
 | k + 1, x0, x1, x2, x9, x10 => if x10 < (x1.length : Int) then (if x9.length < 17592186044416 then (spec_PackSecrets.l0 k x0 x1 x2 (x9 ++ [wrap64 ((wrap64 (x0 - 1)) - x10)]) (wrap64 (x10 + 1))) else (none)) else (spec_PackSecrets.l1 k x0 x1 x2 x9 0)
def spec_PackSecrets.l1 : Nat → Int → List Int → List Int → List Int → Int → Option (List Int × Int)
 | 0, _, _, _, _, _ => none
 | k + 1, x0, x1, x2, x9, x11 => if x11 < (x2.length : Int) then (if x9.length < 17592186044416 then (spec_PackSecrets.l1 k x0 x1 x2 (x9 ++ [wrap64 (1 + x11)]) (wrap64 (x11 + 1))) else (none)) else ((spec_l00Own.f x1).bind fun t457 => (if t457.length + x2.length < 17592186044416 then ((spec_l05Through.f k x0 x9 (t457 ++ x2)).bind fun t463 => (some (t463, 0))) else (none)))
end
def spec_PackSecrets.f (k : Nat) (a0 : Int) (l1 : List Int) (l2 : List Int) : Option (List Int × Int) := (spec_l05Prime.f k a0).bind fun t436 => (if t436 = true then (if (wrap64 ((l1.length : Int) + (l2.length : Int))) > 7 then (spec_PackSecrets.j0 k a0 l1 l2 (wrap64 ((l1.length : Int) + (l2.length : Int))) true) else ((spec_l05Residues.f k a0 l1).bind fun t440 => (if t440 = true then ((spec_l05Residues.f k a0 l2).bind fun t441 => (spec_PackSecrets.j0 k a0 l1 l2 (wrap64 ((l1.length : Int) + (l2.length : Int))) (!t441))) else (spec_PackSecrets.j0 k a0 l1 l2 (wrap64 ((l1.length : Int) + (l2.length : Int))) true)))) else (some ((([] : List Int)), 1)))
theorem spec_PackSecrets.mono_l : ∀ k, (∀ y0 y1 y2 y3 y4, LeO (spec_PackSecrets.j0 k y0 y1 y2 y3 y4) (spec_PackSecrets.j0 (k + 1) y0 y1 y2 y3 y4)) ∧ (∀ y0 y1 y2 y3 y4, LeO (spec_PackSecrets.l0 k y0 y1 y2 y3 y4) (spec_PackSecrets.l0 (k + 1) y0 y1 y2 y3 y4)) ∧ (∀ y0 y1 y2 y3 y4, LeO (spec_PackSecrets.l1 k y0 y1 y2 y3 y4) (spec_PackSecrets.l1 (k + 1) y0 y1 y2 y3 y4))
 | 0 => ⟨fun _ _ _ _ _ r h => by simp [spec_PackSecrets.j0] at h, fun _ _ _ _ _ r h => by simp [spec_PackSecrets.l0] at h, fun _ _ _ _ _ r h => by simp [spec_PackSecrets.l1] at h⟩
 | k + 1 => by
  obtain ⟨ih0, ih1, ih2⟩ := spec_PackSecrets.mono_l k
  refine ⟨?_, ?_, ?_⟩
  ·intro y0 y1 y2 y3 y4
   unfold spec_PackSecrets.j0
   repeat' first
   | (with_reducible exact ih0 _ _ _ _ _)
   | (with_reducible exact ih1 _ _ _ _ _)
   | (with_reducible exact ih2 _ _ _ _ _)
   | (with_reducible exact spec_l05Prime.mono _ _)
   | (with_reducible exact spec_l05Residues.mono _ _ _)
   | (with_reducible exact spec_l05Through.mono _ _ _ _)
   | (with_reducible exact LeO.refl _)
   | (with_reducible exact LeO.none _)
   | (with_reducible refine LeO.ite ?_ ?_)
   | (with_reducible refine LeO.bind ?_ (fun _ => ?_))
   | exact ih0 _ _ _ _ _
   | exact ih1 _ _ _ _ _
   | exact ih2 _ _ _ _ _
   | exact spec_l05Prime.mono _ _
   | exact spec_l05Residues.mono _ _ _
   | exact spec_l05Through.mono _ _ _ _
   | exact LeO.none _
   | refine LeO.ite ?_ ?_
   | refine LeO.bind ?_ (fun _ => ?_)
  ·intro y0 y1 y2 y3 y4
   unfold spec_PackSecrets.l0
   repeat' first
   | (with_reducible exact ih0 _ _ _ _ _)
   | (with_reducible exact ih1 _ _ _ _ _)
   | (with_reducible exact ih2 _ _ _ _ _)
   | (with_reducible exact spec_l05Prime.mono _ _)
   | (with_reducible exact spec_l05Residues.mono _ _ _)
   | (with_reducible exact spec_l05Through.mono _ _ _ _)
   | (with_reducible exact LeO.refl _)
   | (with_reducible exact LeO.none _)
   | (with_reducible refine LeO.ite ?_ ?_)
   | (with_reducible refine LeO.bind ?_ (fun _ => ?_))
   | exact ih0 _ _ _ _ _
   | exact ih1 _ _ _ _ _
   | exact ih2 _ _ _ _ _
   | exact spec_l05Prime.mono _ _
   | exact spec_l05Residues.mono _ _ _
   | exact spec_l05Through.mono _ _ _ _
   | exact LeO.none _
   | refine LeO.ite ?_ ?_
   | refine LeO.bind ?_ (fun _ => ?_)
  ·intro y0 y1 y2 y3 y4
   unfold spec_PackSecrets.l1
   repeat' first
   | (with_reducible exact ih0 _ _ _ _ _)
   | (with_reducible exact ih1 _ _ _ _ _)
   | (with_reducible exact ih2 _ _ _ _ _)
   | (with_reducible exact spec_l05Prime.mono _ _)
   | (with_reducible exact spec_l05Residues.mono _ _ _)
   | (with_reducible exact spec_l05Through.mono _ _ _ _)
   | (with_reducible exact LeO.refl _)
   | (with_reducible exact LeO.none _)
   | (with_reducible refine LeO.ite ?_ ?_)
   | (with_reducible refine LeO.bind ?_ (fun _ => ?_))
   | exact ih0 _ _ _ _ _
   | exact ih1 _ _ _ _ _
   | exact ih2 _ _ _ _ _
   | exact spec_l05Prime.mono _ _
   | exact spec_l05Residues.mono _ _ _
   | exact spec_l05Through.mono _ _ _ _
   | exact LeO.none _
   | refine LeO.ite ?_ ?_
   | refine LeO.bind ?_ (fun _ => ?_)
theorem spec_PackSecrets.mono : ∀ a0 a1 a2 k, LeO (spec_PackSecrets.f k a0 a1 a2) (spec_PackSecrets.f (k + 1) a0 a1 a2) := by
 intro a0 a1 a2 k
 obtain ⟨ih0, ih1, ih2⟩ := spec_PackSecrets.mono_l k
 unfold spec_PackSecrets.f
 repeat' first
   | (with_reducible exact ih0 _ _ _ _ _)
   | (with_reducible exact ih1 _ _ _ _ _)
   | (with_reducible exact ih2 _ _ _ _ _)
   | (with_reducible exact spec_l05Prime.mono _ _)
   | (with_reducible exact spec_l05Residues.mono _ _ _)
   | (with_reducible exact spec_l05Through.mono _ _ _ _)
   | (with_reducible exact LeO.refl _)
   | (with_reducible exact LeO.none _)
   | (with_reducible refine LeO.ite ?_ ?_)
   | (with_reducible refine LeO.bind ?_ (fun _ => ?_))
   | exact ih0 _ _ _ _ _
   | exact ih1 _ _ _ _ _
   | exact ih2 _ _ _ _ _
   | exact spec_l05Prime.mono _ _
   | exact spec_l05Residues.mono _ _ _
   | exact spec_l05Through.mono _ _ _ _
   | exact LeO.none _
   | refine LeO.ite ?_ ?_
   | refine LeO.bind ?_ (fun _ => ?_)
set_option maxHeartbeats 8000000 in
set_option maxRecDepth 100000 in
theorem spec_PackSecrets.calls (k : Nat) (a0 : Int) (A1 : Option Addr) (c1 : Nat) (l1 : List Int) (A2 : Option Addr) (c2 : Nat) (l2 : List Int) (r1 : List Int) (r2 : Int) (w : World) (hr1 : Kd.C (Kd.int .i64) w A1 l1.length l1) (hc1 : l1.length ≤ c1) (hr2 : Kd.C (Kd.int .i64) w A2 l2.length l2) (hc2 : l2.length ≤ c2) (h : spec_PackSecrets.f k a0 l1 l2 = some (r1, r2)) :
  Calls Try.prog 55 #[.int .i64 a0, .slice A1 l1.length c1, .slice A2 l2.length c2] w fun e w' => ∃ v0_ : Value, e = .returned (.tuple #[v0_, .int .i64 r2]) ∧ Kd.R (Kd.int .i64) 2 w' w.heap.size (fun _ => True) v0_ r1 ∧ Below w.heap.size w w' := by
 have HR1 := Aside0.mk hr1
 have HC1 := Aside0.mk hc1
 clear hr1 hc1
 have HR2 := Aside0.mk hr2
 have HC2 := Aside0.mk hc2
 clear hr2 hc2
 have HB := Aside0.mk (Below.refl w.heap.size w)
 have H : ((spec_l05Prime.f k a0).bind fun t436 => (if t436 = true then (if (wrap64 ((l1.length : Int) + (l2.length : Int))) > 7 then (spec_PackSecrets.j0 k a0 l1 l2 (wrap64 ((l1.length : Int) + (l2.length : Int))) true) else ((spec_l05Residues.f k a0 l1).bind fun t440 => (if t440 = true then ((spec_l05Residues.f k a0 l2).bind fun t441 => (spec_PackSecrets.j0 k a0 l1 l2 (wrap64 ((l1.length : Int) + (l2.length : Int))) (!t441))) else (spec_PackSecrets.j0 k a0 l1 l2 (wrap64 ((l1.length : Int) + (l2.length : Int))) true)))) else (some ((([] : List Int)), 1)))) = some (r1, r2) := h
 clear h
 replace H := Option.bind_eq_some_iff.mp H
 obtain ⟨t436, A40, H⟩ := H
 replace H : (if t436 = true then (if (wrap64 ((l1.length : Int) + (l2.length : Int))) > 7 then (spec_PackSecrets.j0 k a0 l1 l2 (wrap64 ((l1.length : Int) + (l2.length : Int))) true) else ((spec_l05Residues.f k a0 l1).bind fun t440 => (if t440 = true then ((spec_l05Residues.f k a0 l2).bind fun t441 => (spec_PackSecrets.j0 k a0 l1 l2 (wrap64 ((l1.length : Int) + (l2.length : Int))) (!t441))) else (spec_PackSecrets.j0 k a0 l1 l2 (wrap64 ((l1.length : Int) + (l2.length : Int))) true)))) else (some ((([] : List Int)), 1))) = some (r1, r2) := H
 have A4 := Aside0.mk A40
 clear A40
 by_cases c5 : t436 = true
 ·subst c5
  have H1 : (if (wrap64 ((l1.length : Int) + (l2.length : Int))) > 7 then (spec_PackSecrets.j0 k a0 l1 l2 (wrap64 ((l1.length : Int) + (l2.length : Int))) true) else ((spec_l05Residues.f k a0 l1).bind fun t440 => (if t440 = true then ((spec_l05Residues.f k a0 l2).bind fun t441 => (spec_PackSecrets.j0 k a0 l1 l2 (wrap64 ((l1.length : Int) + (l2.length : Int))) (!t441))) else (spec_PackSecrets.j0 k a0 l1 l2 (wrap64 ((l1.length : Int) + (l2.length : Int))) true)))) = some (r1, r2) := by rw [if_pos rfl] at H; exact H
  clear H
  have H := H1
  clear H1
  have HC6 := Aside0.mk H
  clear H
  go_enter Try.func55, Try.ntmps55
  go_upto_region 4 with (first | ((with_reducible refine gate_callee (f := 105) rfl ?_); refine goesL_ (some 13) rfl rfl Try.func105 (by kernel_rfl) rfl #[.int .i64 a0] rfl G_ ?_; (with_reducible refine (spec_l05Prime.calls k a0 true _ A4.out).mono ?_); rintro e w' ⟨rfl, ⟨nd, rfl⟩⟩; refine ⟨_, rfl, ?_⟩))
  (try simp only [Act.put, List.setIfInBounds_toArray, List.set_cons_zero, List.set_cons_succ])
  go_cut [34] (fun v34 wc => ∃ (kq : Nat) (x34_5 : Bool), v34 = .bool x34_5 ∧ Aside0 (spec_PackSecrets.j0 kq a0 l1 l2 (wrap64 ((l1.length : Int) + (l2.length : Int))) x34_5 = some (r1, r2)) ∧ Aside0 (kq ≤ k) ∧ Aside0 (Below w.heap.size w wc))
  case first =>
   have H := HC6.out
   clear HC6
   by_cases c7 : (wrap64 ((l1.length : Int) + (l2.length : Int))) > 7
   ·rw [if_pos c7] at H
    have c7b0 : decide (7 < (wrap64 ((l1.length : Int) + (l2.length : Int)))) = true := decide_eq_true c7
    clear c7
    (first | rw [c7b0] | (simp only [i64_w, i32_w]; rw [c7b0]) | skip)
    have H' := Aside0.mk H
    clear H
    go_wp2
    go_meet
    case rel => exact ⟨_, (true), R_, H', ⟨by first | omega | exact Nat.le_refl _⟩, ⟨B_⟩⟩
   ·rw [if_neg c7] at H
    have c7b0 : decide (7 < (wrap64 ((l1.length : Int) + (l2.length : Int)))) = false := decide_eq_false c7
    clear c7
    (first | rw [c7b0] | (simp only [i64_w, i32_w]; rw [c7b0]) | skip)
    replace H := Option.bind_eq_some_iff.mp H
    obtain ⟨t440, A80, H⟩ := H
    replace H : (if t440 = true then ((spec_l05Residues.f k a0 l2).bind fun t441 => (spec_PackSecrets.j0 k a0 l1 l2 (wrap64 ((l1.length : Int) + (l2.length : Int))) (!t441))) else (spec_PackSecrets.j0 k a0 l1 l2 (wrap64 ((l1.length : Int) + (l2.length : Int))) true)) = some (r1, r2) := H
    have A8 := Aside0.mk A80
    clear A80
    by_cases c9 : t440 = true
    ·subst c9
     have H1 : ((spec_l05Residues.f k a0 l2).bind fun t441 => (spec_PackSecrets.j0 k a0 l1 l2 (wrap64 ((l1.length : Int) + (l2.length : Int))) (!t441))) = some (r1, r2) := by rw [if_pos rfl] at H; exact H
     clear H
     have H := H1
     clear H1
     replace H := Option.bind_eq_some_iff.mp H
     obtain ⟨t441, A100, H⟩ := H
     replace H : (spec_PackSecrets.j0 k a0 l1 l2 (wrap64 ((l1.length : Int) + (l2.length : Int))) (!t441)) = some (r1, r2) := H
     have A10 := Aside0.mk A100
     clear A100
     have H' := Aside0.mk H
     clear H
     go_wp2_with (first | (go_at_call 86; (with_reducible refine (spec_l05Residues.calls k a0 _ _ l1 true _ ?side1 ?side2 A8.out).mono ?_); (case side1 => repeat (first | exact (Kd.C_below HR1.out HB.out) | (with_reducible refine Kd.C_alloc ?_ _) | (with_reducible refine Kd.C_drewN ?_ _) | (with_reducible refine Kd.C_drew ?_))); (case side2 => exact HC1.out); rintro e w' ⟨rfl, ⟨nd, rfl⟩⟩) | (go_at_call 86; (with_reducible refine (spec_l05Residues.calls k a0 _ _ l2 t441 _ ?side1 ?side2 A10.out).mono ?_); (case side1 => repeat (first | exact (Kd.C_below HR2.out B_) | (with_reducible refine Kd.C_alloc ?_ _) | (with_reducible refine Kd.C_drewN ?_ _) | (with_reducible refine Kd.C_drew ?_))); (case side2 => exact HC2.out); rintro e w' ⟨rfl, ⟨nd, rfl⟩⟩))
     go_meet
     case rel => exact ⟨_, (!t441), R_, H', ⟨by first | omega | exact Nat.le_refl _⟩, ⟨B_⟩⟩
    ·replace c9 := Bool.eq_false_iff.mpr c9
     subst c9
     have H1 : (spec_PackSecrets.j0 k a0 l1 l2 (wrap64 ((l1.length : Int) + (l2.length : Int))) true) = some (r1, r2) := by rw [if_neg (show ¬ (false = true) by decide)] at H; exact H
     clear H
     have H := H1
     clear H1
     have H' := Aside0.mk H
     clear H
     go_wp2_with (first | (go_at_call 86; (with_reducible refine (spec_l05Residues.calls k a0 _ _ l1 false _ ?side1 ?side2 A8.out).mono ?_); (case side1 => repeat (first | exact (Kd.C_below HR1.out HB.out) | (with_reducible refine Kd.C_alloc ?_ _) | (with_reducible refine Kd.C_drewN ?_ _) | (with_reducible refine Kd.C_drew ?_))); (case side2 => exact HC1.out); rintro e w' ⟨rfl, ⟨nd, rfl⟩⟩))
     go_meet
     case rel => exact ⟨_, (true), R_, H', ⟨by first | omega | exact Nat.le_refl _⟩, ⟨B_⟩⟩
  case rest =>
   clear HC6
   try clear c1
   try clear c2
   try clear p2
   try clear c5
   try clear p6
   try clear c7
   try clear c7b0
   try clear c9
   try clear c10
   obtain ⟨kq, x34_5, rfl, HA, HJ5, HB⟩ := hcut
   cases kq with
   | zero => exact absurd HA.out (by simp [spec_PackSecrets.j0])
   | succ kj5 =>
    have H := HA.out
    clear HA
    simp only [spec_PackSecrets.j0] at H
    by_cases c11 : x34_5 = true
    ·subst c11
     have H1 : (some ((([] : List Int)), 2)) = some (r1, r2) := by rw [if_pos rfl] at H; exact H
     clear H
     have H := H1
     clear H1
     obtain ⟨y442, hy442⟩ : ∃ y_ : List Int, y_ = (([] : List Int)) := ⟨_, rfl⟩
     replace H : (some (y442, 2)) = some (r1, r2) := by first | (rw [hy442]; with_reducible exact H) | (have H2_ := (Option.bind_some _ _).symm.trans H; rw [hy442]; with_reducible exact H2_) | (have H2_ := (Option.bind_some _ _).symm.trans H; with_reducible exact H2_) | with_reducible exact H | (rw [hy442]; exact H) | exact H
     have Ny442 := Aside0.mk hy442
     clear hy442
     simp only [Option.some.injEq, Prod.mk.injEq] at H
     obtain ⟨rfl, rfl⟩ := H
     go_wp2_with (first | ((with_reducible refine gate_dst (N := 35) rfl ?_); refine Kd.R_lit (Kd.int .i64) _ 2 ?hg (N := 35) ?hd (xs := ([] : List Int)) (inner := []) (ok := fun _ => True) (okp := fun _ => True) ?hr ?hp (fun _ hk => hk) trivial (Below.refl _ _) (Nat.le_refl _) (by simp) ?_; (case hd => rfl); (case hg => rfl); (case hr => first | (go_simp; done) | (go_simp; rfl)); (case hp => exact (Reps.none _ _)); intro v443 w12 ho13 hb hg_ hnew_; clear hg_ hnew_; (first | rw [← Ny442.out] at ho13 | (simp only [Int.reduceToNat] at ho13; rw [← Ny442.out] at ho13)); have n0_ := Aside0.mk (Kd.R_lower ho13 (below_size B_)); have n1_ := Aside0.mk (below_step B_ hb); clear HB; have HO444 := n0_; have HB := n1_; clear n0_ n1_; clear hb ho13))
     go_ret2
     exact ⟨_, by first | rfl | (simp [errW_none, errW_some] <;> rfl) | (simp [*, errW_none, errW_some] <;> rfl), by (with_reducible repeat (first | apply Kd.R_alloc | apply Kd.R_drewN | apply Kd.R_drew)); exact HO444.out, B_⟩
    ·replace c11 := Bool.eq_false_iff.mpr c11
     subst c11
     have H1 : (if (wrap64 ((l1.length : Int) + (l2.length : Int))) > (wrap64 (a0 - 1)) then (some ((([] : List Int)), 4)) else (spec_PackSecrets.l0 kj5 a0 l1 l2 (([] : List Int)) 0)) = some (r1, r2) := by rw [if_neg (show ¬ (false = true) by decide)] at H; exact H
     clear H
     have H := H1
     clear H1
     by_cases c14 : (wrap64 ((l1.length : Int) + (l2.length : Int))) > (wrap64 (a0 - 1))
     ·rw [if_pos c14] at H
      have c14b0 : decide ((wrap64 (a0 - 1)) < (wrap64 ((l1.length : Int) + (l2.length : Int)))) = true := decide_eq_true c14
      clear c14
      obtain ⟨y445, hy445⟩ : ∃ y_ : List Int, y_ = (([] : List Int)) := ⟨_, rfl⟩
      replace H : (some (y445, 4)) = some (r1, r2) := by first | (rw [hy445]; with_reducible exact H) | (have H2_ := (Option.bind_some _ _).symm.trans H; rw [hy445]; with_reducible exact H2_) | (have H2_ := (Option.bind_some _ _).symm.trans H; with_reducible exact H2_) | with_reducible exact H | (rw [hy445]; exact H) | exact H
      have Ny445 := Aside0.mk hy445
      clear hy445
      simp only [Option.some.injEq, Prod.mk.injEq] at H
      obtain ⟨rfl, rfl⟩ := H
      go_wp2_with (first | ((with_reducible refine gate_dst (N := 40) rfl ?_); refine Kd.R_lit (Kd.int .i64) _ 2 ?hg (N := 40) ?hd (xs := ([] : List Int)) (inner := []) (ok := fun _ => True) (okp := fun _ => True) ?hr ?hp (fun _ hk => hk) trivial (Below.refl _ _) (Nat.le_refl _) (by simp) ?_; (case hd => rfl); (case hg => rfl); (case hr => first | (go_simp; done) | (go_simp; rfl)); (case hp => exact (Reps.none _ _)); intro v446 w15 ho16 hb hg_ hnew_; clear hg_ hnew_; (first | rw [← Ny445.out] at ho16 | (simp only [Int.reduceToNat] at ho16; rw [← Ny445.out] at ho16)); have n0_ := Aside0.mk (Kd.R_lower ho16 (below_size B_)); have n1_ := Aside0.mk (below_step B_ hb); clear HB; have HO447 := n0_; have HB := n1_; clear n0_ n1_; clear hb ho16))
      go_ret2
      exact ⟨_, by first | rfl | (simp [errW_none, errW_some] <;> rfl) | (simp [*, errW_none, errW_some] <;> rfl), by (with_reducible repeat (first | apply Kd.R_alloc | apply Kd.R_drewN | apply Kd.R_drew)); exact HO447.out, B_⟩
     ·rw [if_neg c14] at H
      have c14b0 : decide ((wrap64 (a0 - 1)) < (wrap64 ((l1.length : Int) + (l2.length : Int)))) = false := decide_eq_false c14
      clear c14
      obtain ⟨y448, hy448⟩ : ∃ y_ : List Int, y_ = (([] : List Int)) := ⟨_, rfl⟩
      replace H : (spec_PackSecrets.l0 kj5 a0 l1 l2 y448 0) = some (r1, r2) := by first | (rw [hy448]; with_reducible exact H) | (have H2_ := (Option.bind_some _ _).symm.trans H; rw [hy448]; with_reducible exact H2_) | (have H2_ := (Option.bind_some _ _).symm.trans H; with_reducible exact H2_) | with_reducible exact H | (rw [hy448]; exact H) | exact H
      have Ny448 := Aside0.mk hy448
      clear hy448
      have H' := Aside0.mk H
      clear H
      go_wp2_with (first | ((with_reducible refine gate_dst (N := 41) rfl ?_); refine Kd.R_lit (Kd.int .i64) _ 2 ?hg (N := 41) ?hd (xs := ([] : List Int)) (inner := []) (ok := fun _ => True) (okp := fun _ => True) ?hr ?hp (fun _ hk => hk) trivial (Below.refl _ _) (Nat.le_refl _) (by simp) ?_; (case hd => rfl); (case hg => rfl); (case hr => first | (go_simp; done) | (go_simp; rfl)); (case hp => exact (Reps.none _ _)); intro v449 w17 ho18 hb hg_ hnew_; clear hg_ hnew_; (first | rw [← Ny448.out] at ho18 | (simp only [Int.reduceToNat] at ho18; rw [← Ny448.out] at ho18)); have n0_ := Aside0.mk (Kd.R_lower ho18 (below_size B_)); have n1_ := Aside0.mk (below_step B_ hb); clear HB; have HO450 := n0_; have HB := n1_; clear n0_ n1_; clear hb ho18))
      go_loopg [9, 10] kj5 (fun kq v9 v10 w' => ∃ (x9_2 : List Int) (x10_2 : Int), v10 = .int .i64 x10_2 ∧ Aside0 (spec_PackSecrets.l0 kq a0 l1 l2 x9_2 x10_2 = some (r1, r2)) ∧ Aside0 (kq ≤ kj5) ∧ Aside0 (Kd.R (Kd.int .i64) 2 w' w.heap.size (fun _ => True) v9 x9_2) ∧ Aside0 (Below w.heap.size w w'))
      case atStart => exact ⟨(y448), (0), R_, H', ⟨Nat.le_refl _⟩, ⟨by (with_reducible repeat (first | apply Kd.R_alloc | apply Kd.R_drewN | apply Kd.R_drew)); exact HO450.out⟩, ⟨B_⟩⟩
      case round =>
       clear H'
       try clear c1
       try clear c2
       try clear p2
       try clear c5
       try clear p6
       try clear c7
       try clear c7b0
       try clear c9
       try clear c10
       try clear c11
       try clear c14
       try clear c14b0
       try clear p2
       try clear p6
       obtain ⟨x9_2, x10_2, rfl, HA, HK2, HO_9, HB⟩ := hrel
       cases gk with
       | zero => exact absurd HA.out (by simp [spec_PackSecrets.l0])
       | succ k2 =>
        have H := HA.out
        clear HA
        simp only [spec_PackSecrets.l0] at H
        by_cases c19 : x10_2 < (l1.length : Int)
        ·rw [if_pos c19] at H
         have c19b0 : decide (x10_2 < (l1.length : Int)) = true := decide_eq_true c19
         clear c19
         by_cases c20 : x9_2.length < 17592186044416
         ·rw [if_pos c20] at H
          have LMc20 := Aside0.mk c20
          clear c20
          obtain ⟨y451, hy451⟩ : ∃ y_ : List Int, y_ = (x9_2 ++ [wrap64 ((wrap64 (a0 - 1)) - x10_2)]) := ⟨_, rfl⟩
          replace H : (spec_PackSecrets.l0 k2 a0 l1 l2 y451 (wrap64 (x10_2 + 1))) = some (r1, r2) := by first | (rw [hy451]; with_reducible exact H) | (have H2_ := (Option.bind_some _ _).symm.trans H; rw [hy451]; with_reducible exact H2_) | (have H2_ := (Option.bind_some _ _).symm.trans H; with_reducible exact H2_) | with_reducible exact H | (rw [hy451]; exact H) | exact H
          have Ny451 := Aside0.mk hy451
          clear hy451
          have H' := Aside0.mk H
          clear H
          go_wp2_with (first | ((with_reducible refine gate_builtin (b := .append) (xs := #[.tmp 48, .tmp 53]) rfl ?_); at_builtin; refine Kd.R_append (Kd.int .i64) (w0 := w) w.heap.size rfl (.tmp 48) (.tmp 53) 24 2 (.int .i64 0) 8 rfl Try.underlying24 info2 rfl (by decide) (by omega) u9 x9_2 (wrap64 ((wrap64 (a0 - 1)) - x10_2)) [.int .i64 (wrap64 ((wrap64 (a0 - 1)) - x10_2))] (fun _ => True) (fun _ => False) rfl rfl ?aP (fun _ hk => hk.elim) ?aF ?aO ?aB ?aS ?aL ?_; (case aP => exact rfl); (case aB => exact B_); (case aF => exact (fun _ _ => trivial)); (case aO => exact (by (with_reducible repeat (first | apply Kd.R_alloc | apply Kd.R_drewN | apply Kd.R_drew)); exact HO_9.out)); (case aS => exact (below_size B_)); (case aL => have := LMc20.out; omega); intro v452 w21 ho hb hg hat; rw [← Ny451.out] at ho; have n0_ := Aside0.mk (hb); have n1_ := Aside0.mk (ho); clear HB; clear HO_9; have HB := n0_; have HO453 := n1_; clear n0_ n1_; clear ho hb hg hat))
          go_roundg k2
          case measure => have := HJ5.out; have := HK2.out; omega
          case rel => exact ⟨(y451), (wrap64 (x10_2 + 1)), R_, H', ⟨by have := HJ5.out; have := HK2.out; omega⟩, ⟨by (with_reducible repeat (first | apply Kd.R_alloc | apply Kd.R_drewN | apply Kd.R_drew)); exact HO453.out⟩, ⟨B_⟩⟩
         ·rw [if_neg c20] at H
          exact absurd H (by simp)
        ·rw [if_neg c19] at H
         have c19b0 : decide (x10_2 < (l1.length : Int)) = false := decide_eq_false c19
         clear c19
         have H' := Aside0.mk H
         clear H
         go_wp2
         go_loopg [9, 11] k2 (fun kq v9 v11 w' => ∃ (x9_3 : List Int) (x11_3 : Int), v11 = .int .i64 x11_3 ∧ Aside0 (spec_PackSecrets.l1 kq a0 l1 l2 x9_3 x11_3 = some (r1, r2)) ∧ Aside0 (kq ≤ k2) ∧ Aside0 (Kd.R (Kd.int .i64) 2 w' w.heap.size (fun _ => True) v9 x9_3) ∧ Aside0 (Below w.heap.size w w'))
         case atStart => exact ⟨(x9_2), (0), R_, H', ⟨Nat.le_refl _⟩, ⟨by (with_reducible repeat (first | apply Kd.R_alloc | apply Kd.R_drewN | apply Kd.R_drew)); exact HO_9.out⟩, ⟨B_⟩⟩
         case round =>
          clear H'
          try clear c1
          try clear c2
          try clear p2
          try clear c5
          try clear p6
          try clear c7
          try clear c7b0
          try clear c9
          try clear c10
          try clear c11
          try clear c14
          try clear c14b0
          try clear c19
          try clear c19b0
          try clear c20
          try clear p2
          try clear p6
          obtain ⟨x9_3, x11_3, rfl, HA, HK3, HO_9, HB⟩ := hrel
          cases gk with
          | zero => exact absurd HA.out (by simp [spec_PackSecrets.l1])
          | succ k3 =>
           have H := HA.out
           clear HA
           simp only [spec_PackSecrets.l1] at H
           by_cases c22 : x11_3 < (l2.length : Int)
           ·rw [if_pos c22] at H
            have c22b0 : decide (x11_3 < (l2.length : Int)) = true := decide_eq_true c22
            clear c22
            by_cases c23 : x9_3.length < 17592186044416
            ·rw [if_pos c23] at H
             have LMc23 := Aside0.mk c23
             clear c23
             obtain ⟨y454, hy454⟩ : ∃ y_ : List Int, y_ = (x9_3 ++ [wrap64 (1 + x11_3)]) := ⟨_, rfl⟩
             replace H : (spec_PackSecrets.l1 k3 a0 l1 l2 y454 (wrap64 (x11_3 + 1))) = some (r1, r2) := by first | (rw [hy454]; with_reducible exact H) | (have H2_ := (Option.bind_some _ _).symm.trans H; rw [hy454]; with_reducible exact H2_) | (have H2_ := (Option.bind_some _ _).symm.trans H; with_reducible exact H2_) | with_reducible exact H | (rw [hy454]; exact H) | exact H
             have Ny454 := Aside0.mk hy454
             clear hy454
             have H' := Aside0.mk H
             clear H
             go_wp2_with (first | ((with_reducible refine gate_builtin (b := .append) (xs := #[.tmp 61, .tmp 64]) rfl ?_); at_builtin; refine Kd.R_append (Kd.int .i64) (w0 := w) w.heap.size rfl (.tmp 61) (.tmp 64) 24 2 (.int .i64 0) 8 rfl Try.underlying24 info2 rfl (by decide) (by omega) u9 x9_3 (wrap64 (1 + x11_3)) [.int .i64 (wrap64 (1 + x11_3))] (fun _ => True) (fun _ => False) rfl rfl ?aP (fun _ hk => hk.elim) ?aF ?aO ?aB ?aS ?aL ?_; (case aP => exact rfl); (case aB => exact B_); (case aF => exact (fun _ _ => trivial)); (case aO => exact (by (with_reducible repeat (first | apply Kd.R_alloc | apply Kd.R_drewN | apply Kd.R_drew)); exact HO_9.out)); (case aS => exact (below_size B_)); (case aL => have := LMc23.out; omega); intro v455 w24 ho hb hg hat; rw [← Ny454.out] at ho; have n0_ := Aside0.mk (hb); have n1_ := Aside0.mk (ho); clear HB; clear HO_9; have HB := n0_; have HO456 := n1_; clear n0_ n1_; clear ho hb hg hat))
             go_roundg k3
             case measure => have := HJ5.out; have := HK2.out; have := HK3.out; omega
             case rel => exact ⟨(y454), (wrap64 (x11_3 + 1)), R_, H', ⟨by have := HJ5.out; have := HK2.out; have := HK3.out; omega⟩, ⟨by (with_reducible repeat (first | apply Kd.R_alloc | apply Kd.R_drewN | apply Kd.R_drew)); exact HO456.out⟩, ⟨B_⟩⟩
            ·rw [if_neg c23] at H
             exact absurd H (by simp)
           ·rw [if_neg c22] at H
            have c22b0 : decide (x11_3 < (l2.length : Int)) = false := decide_eq_false c22
            clear c22
            replace H := Option.bind_eq_some_iff.mp H
            obtain ⟨t457, A250, H⟩ := H
            replace H : (if t457.length + l2.length < 17592186044416 then ((spec_l05Through.f k3 a0 x9_3 (t457 ++ l2)).bind fun t463 => (some (t463, 0))) else (none)) = some (r1, r2) := H
            have A25 := Aside0.mk A250
            clear A250
            by_cases c26 : t457.length + l2.length < 17592186044416
            ·rw [if_pos c26] at H
             have LMc26 := Aside0.mk c26
             clear c26
             obtain ⟨y460, hy460⟩ : ∃ y_ : List Int, y_ = (t457 ++ l2) := ⟨_, rfl⟩
             replace H : ((spec_l05Through.f k3 a0 x9_3 y460).bind fun t463 => (some (t463, 0))) = some (r1, r2) := by first | (rw [hy460]; with_reducible exact H) | (have H2_ := (Option.bind_some _ _).symm.trans H; rw [hy460]; with_reducible exact H2_) | (have H2_ := (Option.bind_some _ _).symm.trans H; with_reducible exact H2_) | with_reducible exact H | (rw [hy460]; exact H) | exact H
             have Ny460 := Aside0.mk hy460
             clear hy460
             replace H := Option.bind_eq_some_iff.mp H
             obtain ⟨t463, A270, H⟩ := H
             replace H : (some (t463, 0)) = some (r1, r2) := H
             have A27 := Aside0.mk A270
             clear A270
             simp only [Option.some.injEq, Prod.mk.injEq] at H
             obtain ⟨rfl, rfl⟩ := H
             go_wp2_with (first | ((with_reducible refine gate_callee (f := 89) rfl ?_); refine goesL_ (some 69) rfl rfl Try.func89 (by kernel_rfl) rfl #[.slice A1 l1.length c1] rfl G_ ?_; (with_reducible refine (spec_l00Own.calls _ _ l1 t457 _ ?side1 ?side2 A25.out).mono ?_); (case side1 => repeat (first | exact (Kd.C_below HR1.out HB.out) | (with_reducible refine Kd.C_alloc ?_ _) | (with_reducible refine Kd.C_drewN ?_ _) | (with_reducible refine Kd.C_drew ?_))); (case side2 => exact HC1.out); rintro e w28 ⟨v458, rfl, ho0, hb⟩; refine ⟨_, rfl, ?_⟩; have n0_ := Aside0.mk (Kd.R_elder' (by (with_reducible repeat (first | apply Kd.R_alloc | apply Kd.R_drewN | apply Kd.R_drew)); exact HO_9.out) (Kd.R_base ho0) hb); have n1_ := Aside0.mk (Kd.R_lower (Kd.R_new' ho0 (Kd.R_lt (by (with_reducible repeat (first | apply Kd.R_alloc | apply Kd.R_drewN | apply Kd.R_drew)); exact HO_9.out))) (below_size B_)); have n2_ := Aside0.mk (below_step B_ hb); clear HO_9; clear HB; have HO_9 := n0_; have HO459 := n1_; have HB := n2_; clear n0_ n1_ n2_; (try clear hb); (try clear hb2); (try clear hk); (try clear hi); (try clear ho0)) | ((with_reducible refine gate_builtin (b := .append) (xs := #[.tmp 69, .tmp 70]) rfl ?_); at_builtin; refine Kd.R_append_rows (Kd.int .i64) (w0 := w) w.heap.size rfl (.tmp 69) (.tmp 70) 24 2 (.int .i64 0) 8 rfl Try.underlying24 info2 rfl (by decide) (by omega) v458 t457 l2 _ _ _ (fun k_ => some k_ ≠ (u9 : Value).ownBlock) (fun _ => False) rfl rfl ?aO ?aR (fun _ _ h => h) (fun _ h => h.elim) ?aF ?aB ?aS ?aL ?_; (case aR => repeat (first | exact (Kd.C_below HR2.out HB.out) | (with_reducible refine Kd.C_alloc ?_ _) | (with_reducible refine Kd.C_drewN ?_ _) | (with_reducible refine Kd.C_drew ?_))); (case aB => exact B_); (case aF => exact (fun k_ hk => Kd.fresh' (Kd.R_lt (by (with_reducible repeat (first | apply Kd.R_alloc | apply Kd.R_drewN | apply Kd.R_drew)); exact HO_9.out)) k_ hk)); (case aO => exact (by (with_reducible repeat (first | apply Kd.R_alloc | apply Kd.R_drewN | apply Kd.R_drew)); exact Kd.R_mono HO459.out (fun _ hk => hk.2))); (case aS => exact (below_size B_)); (case aL => have := LMc26.out; omega); intro v461 w29 ho hb hg hat; rw [← Ny460.out] at ho; have n0_ := Aside0.mk (Kd.R_after (ok := (fun _ => True)) (by (with_reducible repeat (first | apply Kd.R_alloc | apply Kd.R_drewN | apply Kd.R_drew)); exact HO_9.out) hg hat); have n1_ := Aside0.mk (hb); have n2_ := Aside0.mk (ho); clear HO_9; clear HB; clear HO459; have HO_9 := n0_; have HB := n1_; have HO462 := n2_; clear n0_ n1_ n2_; clear ho hb hg hat; obtain ⟨Ao30, co30, eo30⟩ := Kd.R_slice HO_9.out; subst eo30; obtain ⟨Ao31, co31, eo31⟩ := Kd.R_slice HO462.out; subst eo31) | ((with_reducible refine gate_callee (f := 76) rfl ?_); refine goesL_ (some 72) rfl rfl Try.func76 (by kernel_rfl) rfl #[.int .i64 a0, .slice Ao30 x9_3.length co30, .slice Ao31 y460.length co31] rfl G_ ?_; (with_reducible refine (spec_l05Through.calls k3 a0 _ _ x9_3 _ _ y460 t463 _ ?side1 ?side2 ?side3 ?side4 A27.out).mono ?_); (case side1 => repeat (first | exact (Kd.R_reads' HO_9.out).2.2 | (with_reducible refine Kd.C_alloc ?_ _) | (with_reducible refine Kd.C_drewN ?_ _) | (with_reducible refine Kd.C_drew ?_))); (case side2 => exact (Kd.R_reads' HO_9.out).2.1); (case side3 => repeat (first | exact (Kd.R_reads' HO462.out).2.2 | (with_reducible refine Kd.C_alloc ?_ _) | (with_reducible refine Kd.C_drewN ?_ _) | (with_reducible refine Kd.C_drew ?_))); (case side4 => exact (Kd.R_reads' HO462.out).2.1); rintro e w32 ⟨v464, rfl, ho0, hb⟩; refine ⟨_, rfl, ?_⟩; have n0_ := Aside0.mk (Kd.R_elder' (by (with_reducible repeat (first | apply Kd.R_alloc | apply Kd.R_drewN | apply Kd.R_drew)); exact HO_9.out) (Kd.R_base ho0) hb); have n1_ := Aside0.mk (Kd.R_elder' (by (with_reducible repeat (first | apply Kd.R_alloc | apply Kd.R_drewN | apply Kd.R_drew)); exact HO462.out) (Kd.R_base ho0) hb); have n2_ := Aside0.mk (Kd.R_lower (Kd.R_new' (Kd.R_new' ho0 (Kd.R_lt (by (with_reducible repeat (first | apply Kd.R_alloc | apply Kd.R_drewN | apply Kd.R_drew)); exact HO_9.out))) (Kd.R_lt (by (with_reducible repeat (first | apply Kd.R_alloc | apply Kd.R_drewN | apply Kd.R_drew)); exact HO462.out))) (below_size B_)); have n3_ := Aside0.mk (below_step B_ hb); clear HO_9; clear HO462; clear HB; have HO_9 := n0_; have HO462 := n1_; have HO465 := n2_; have HB := n3_; clear n0_ n1_ n2_ n3_; (try clear hb); (try clear hb2); (try clear hk); (try clear hi); (try clear ho0)))
             go_ret2
             exact ⟨_, by first | rfl | (simp [errW_none, errW_some] <;> rfl) | (simp [*, errW_none, errW_some] <;> rfl), by (with_reducible repeat (first | apply Kd.R_alloc | apply Kd.R_drewN | apply Kd.R_drew)); exact Kd.R_mono HO465.out (fun _ hk => trivial), B_⟩
            ·rw [if_neg c26] at H
             exact absurd H (by simp)
 ·replace c5 := Bool.eq_false_iff.mpr c5
  subst c5
  have H1 : (some ((([] : List Int)), 1)) = some (r1, r2) := by rw [if_neg (show ¬ (false = true) by decide)] at H; exact H
  clear H
  have H := H1
  clear H1
  obtain ⟨y437, hy437⟩ : ∃ y_ : List Int, y_ = (([] : List Int)) := ⟨_, rfl⟩
  replace H : (some (y437, 1)) = some (r1, r2) := by first | (rw [hy437]; with_reducible exact H) | (have H2_ := (Option.bind_some _ _).symm.trans H; rw [hy437]; with_reducible exact H2_) | (have H2_ := (Option.bind_some _ _).symm.trans H; with_reducible exact H2_) | with_reducible exact H | (rw [hy437]; exact H) | exact H
  have Ny437 := Aside0.mk hy437
  clear hy437
  simp only [Option.some.injEq, Prod.mk.injEq] at H
  obtain ⟨rfl, rfl⟩ := H
  go_enter Try.func55, Try.ntmps55
  go_wp2_with (first | ((with_reducible refine gate_callee (f := 105) rfl ?_); refine goesL_ (some 13) rfl rfl Try.func105 (by kernel_rfl) rfl #[.int .i64 a0] rfl G_ ?_; (with_reducible refine (spec_l05Prime.calls k a0 false _ A4.out).mono ?_); rintro e w' ⟨rfl, ⟨nd, rfl⟩⟩; refine ⟨_, rfl, ?_⟩) | ((with_reducible refine gate_dst (N := 15) rfl ?_); refine Kd.R_lit (Kd.int .i64) _ 2 ?hg (N := 15) ?hd (xs := ([] : List Int)) (inner := []) (ok := fun _ => True) (okp := fun _ => True) ?hr ?hp (fun _ hk => hk) trivial (Below.refl _ _) (Nat.le_refl _) (by simp) ?_; (case hd => rfl); (case hg => rfl); (case hr => first | (go_simp; done) | (go_simp; rfl)); (case hp => exact (Reps.none _ _)); intro v438 w33 ho34 hb hg_ hnew_; clear hg_ hnew_; (first | rw [← Ny437.out] at ho34 | (simp only [Int.reduceToNat] at ho34; rw [← Ny437.out] at ho34)); have n0_ := Aside0.mk (Kd.R_lower ho34 (below_size B_)); have n1_ := Aside0.mk (below_step B_ hb); clear HB; have HO439 := n0_; have HB := n1_; clear n0_ n1_; clear hb ho34))
  go_ret2
  exact ⟨_, by first | rfl | (simp [errW_none, errW_some] <;> rfl) | (simp [*, errW_none, errW_some] <;> rfl), by (with_reducible repeat (first | apply Kd.R_alloc | apply Kd.R_drewN | apply Kd.R_drew)); exact HO439.out, B_⟩

end Go.Proofs.Ytonpikcbmgmchaa.PFnPacked
