-- By xprint.py and given.py (wip/gen): the kit's print of this seat, some functions' contracts given.
import Derived.Test.YtonpikcbmgmchaaPFnSecrecyx0
namespace Go.Proofs.Ytonpikcbmgmchaa.PFnSecrecy
open Go.RowKit Go.Proofs.YtonpikcbmgmchaaW.PrintWords Go.Proofs.YtonpikcbmgmchaaW.PrintLast Go.Proofs.YtonpikcbmgmchaaW.PrintMore
attribute [local go_sem] max2_int min2_int max_two min_two max_three min_three max_four min_four   -- for this text's walks alone
set_option linter.unusedVariables false
set_option linter.unusedSimpArgs false

/-! ### impl_addCurves: function 109 -/
def impl_addCurves.l0 : Nat → Int → List Int → List Int → List Int → Int → Int → Option (List Int)
 | 0, _, _, _, _, _, _ => none
 | k + 1, x0, x1, x2, x7, x16, x17 => if x17 < x16 then (if x17 < (x1.length : Int) then (if 0 ≤ x17 then (if x17 < (x7.length : Int) then ((some (x7.set (x17 : Int).toNat (wrap64 ((rd x7 x17) + (rd x1 x17))) : List Int)).bind fun y278 => (if x17 < (x2.length : Int) then (if x0 = 0 then (none) else (impl_addCurves.l0 k x0 x1 x2 ((y278.set (x17 : Int).toNat (wrap64 ((rd y278 x17) + (rd x2 x17)))).set (x17 : Int).toNat (Int.tmod (wrap64 ((rd y278 x17) + (rd x2 x17))) x0)) x16 (wrap64 (x17 + 1)))) else (if x0 = 0 then (none) else (impl_addCurves.l0 k x0 x1 x2 (y278.set (x17 : Int).toNat (Int.tmod (wrap64 ((rd x7 x17) + (rd x1 x17))) x0)) x16 (wrap64 (x17 + 1)))))) else (none)) else (none)) else (if x17 < (x2.length : Int) then (if 0 ≤ x17 then (if x17 < (x7.length : Int) then (if x0 = 0 then (none) else (impl_addCurves.l0 k x0 x1 x2 ((x7.set (x17 : Int).toNat (wrap64 ((rd x7 x17) + (rd x2 x17)))).set (x17 : Int).toNat (Int.tmod (wrap64 ((rd x7 x17) + (rd x2 x17))) x0)) x16 (wrap64 (x17 + 1)))) else (none)) else (none)) else (if 0 ≤ x17 then (if x17 < (x7.length : Int) then (if x0 = 0 then (none) else (impl_addCurves.l0 k x0 x1 x2 (x7.set (x17 : Int).toNat (Int.tmod (rd x7 x17) x0)) x16 (wrap64 (x17 + 1)))) else (none)) else (none)))) else (some x7)
def impl_addCurves.f (k : Nat) (a0 : Int) (l1 : List Int) (l2 : List Int) : Option (List Int) := if 0 ≤ (mx (l1.length : Int) (l2.length : Int)) then (if (mx (l1.length : Int) (l2.length : Int) : Int).toNat ≤ 35184372088832 then ((some (List.replicate (mx (l1.length : Int) (l2.length : Int) : Int).toNat 0 : List Int)).bind fun y273 => (impl_addCurves.l0 k a0 l1 l2 y273 (y273.length : Int) 0)) else (none)) else (none)
theorem impl_addCurves.mono_l : ∀ k, (∀ y0 y1 y2 y3 y4 y5, LeO (impl_addCurves.l0 k y0 y1 y2 y3 y4 y5) (impl_addCurves.l0 (k + 1) y0 y1 y2 y3 y4 y5))
 | 0 => fun _ _ _ _ _ _ r h => by simp [impl_addCurves.l0] at h
 | k + 1 => by
  have ih0 := impl_addCurves.mono_l k
  ·intro y0 y1 y2 y3 y4 y5
   unfold impl_addCurves.l0
   repeat' first
   | (with_reducible exact ih0 _ _ _ _ _ _)
   | (with_reducible exact LeO.refl _)
   | (with_reducible exact LeO.none _)
   | (with_reducible refine LeO.ite ?_ ?_)
   | (with_reducible refine LeO.bind ?_ (fun _ => ?_))
   | exact ih0 _ _ _ _ _ _
   | exact LeO.none _
   | refine LeO.ite ?_ ?_
   | refine LeO.bind ?_ (fun _ => ?_)
theorem impl_addCurves.mono : ∀ a0 a1 a2 k, LeO (impl_addCurves.f k a0 a1 a2) (impl_addCurves.f (k + 1) a0 a1 a2) := by
 intro a0 a1 a2 k
 have ih0 := impl_addCurves.mono_l k
 unfold impl_addCurves.f
 repeat' first
   | (with_reducible exact ih0 _ _ _ _ _ _)
   | (with_reducible exact LeO.refl _)
   | (with_reducible exact LeO.none _)
   | (with_reducible refine LeO.ite ?_ ?_)
   | (with_reducible refine LeO.bind ?_ (fun _ => ?_))
   | exact ih0 _ _ _ _ _ _
   | exact LeO.none _
   | refine LeO.ite ?_ ?_
   | refine LeO.bind ?_ (fun _ => ?_)
def impl_addCurves.T6 : Bool × List (List Nat × List Nat) := (true, [([], []), ([], []), ([0, 1], [0, 1]), ([2], [2]), ([], []), ([], []), ([4, 5], [4, 5]), ([6], [6]), ([3, 7], [3, 7]), ([0, 1, 0, 1, 2, 3, 4, 5, 6, 7, 8], [0, 1]), ([9, 8, 0, 1, 2, 3, 4, 5, 6, 7, 8], [8, 9])])
def impl_addCurves.B6 : List Nat := [0, 0, 3, 7, 0, 0, 48, 112, 255, 511, 1023]
theorem impl_addCurves.tab6 : rtab .any (opsOf Try.f109 6) = impl_addCurves.T6 := by kernel_rfl
theorem impl_addCurves.bits6 : waitsOk impl_addCurves.T6.2 impl_addCurves.B6 = true := by kernel_rfl
def impl_addCurves.T8 : Bool × List (List Nat × List Nat) := (true, [([], []), ([], []), ([0, 1], [0, 1]), ([2], [2]), ([], []), ([], []), ([4, 5], [4, 5]), ([6], [6]), ([3, 7], [3, 7]), ([0, 1, 0, 1, 2, 3, 4, 5, 6, 7, 8], [0, 1]), ([9, 8, 0, 1, 2, 3, 4, 5, 6, 7, 8], [8, 9])])
def impl_addCurves.B8 : List Nat := [0, 0, 3, 7, 0, 0, 48, 112, 255, 511, 1023]
theorem impl_addCurves.tab8 : rtab .any (opsOf Try.f109 8) = impl_addCurves.T8 := by kernel_rfl
theorem impl_addCurves.bits8 : waitsOk impl_addCurves.T8.2 impl_addCurves.B8 = true := by kernel_rfl
set_option maxHeartbeats 8000000 in
set_option maxRecDepth 100000 in
theorem impl_addCurves.calls (k : Nat) (a0 : Int) (A1 : Option Addr) (c1 : Nat) (l1 : List Int) (A2 : Option Addr) (c2 : Nat) (l2 : List Int) (r : List Int) (w : World) (hr1 : Kd.C (Kd.int .i64) w A1 l1.length l1) (hc1 : l1.length ≤ c1) (hr2 : Kd.C (Kd.int .i64) w A2 l2.length l2) (hc2 : l2.length ≤ c2) (h : impl_addCurves.f k a0 l1 l2 = some r) :
  Calls Try.prog 109 #[.int .i64 a0, .slice A1 l1.length c1, .slice A2 l2.length c2] w fun e w' => ∃ v0_ : Value, e = .returned (v0_) ∧ Kd.R (Kd.int .i64) 2 w' w.heap.size (fun _ => True) v0_ r ∧ Below w.heap.size w w' := by
 have HR1 := Aside0.mk hr1
 have HC1 := Aside0.mk hc1
 clear hr1 hc1
 have HR2 := Aside0.mk hr2
 have HC2 := Aside0.mk hc2
 clear hr2 hc2
 have HB := Aside0.mk (Below.refl w.heap.size w)
 have H : (if 0 ≤ (mx (l1.length : Int) (l2.length : Int)) then (if (mx (l1.length : Int) (l2.length : Int) : Int).toNat ≤ 35184372088832 then ((some (List.replicate (mx (l1.length : Int) (l2.length : Int) : Int).toNat 0 : List Int)).bind fun y273 => (impl_addCurves.l0 k a0 l1 l2 y273 (y273.length : Int) 0)) else (none)) else (none)) = some r := h
 clear h
 obtain ⟨ji4, hji4⟩ : ∃ j_ : Int, (mx (l1.length : Int) (l2.length : Int)) = j_ := ⟨_, rfl⟩
 replace H : (if 0 ≤ (ji4) then (if (ji4 : Int).toNat ≤ 35184372088832 then ((some (List.replicate (ji4 : Int).toNat 0 : List Int)).bind fun y273 => (impl_addCurves.l0 k a0 l1 l2 y273 (y273.length : Int) 0)) else (none)) else (none)) = some r := by first | (rw [hji4] at H; exact H) | (simp only [hji4] at H ⊢; exact H)
 (try (have hji4l : 0 ≤ ji4 := by (rw [← hji4]; unfold mx; (repeat' split) <;> omega)))
 (try (have hji4m : 0 ≤ ji4 := by omega))
 have hji4_ : (if (l1.length : Int) < (l2.length : Int) then (l2.length : Int) else (l1.length : Int)) = ji4 := hji4
 have hji4n : (if l1.length < l2.length then (l2.length : Int) else (l1.length : Int)) = ji4 := by rw [← hji4_]; simp only [Int.ofNat_lt]
 by_cases c5 : 0 ≤ (ji4)
 ·rw [if_pos c5] at H
  have c5b0 := eq_true c5
  have c5b1 : decide (0 ≤ (ji4)) = true := decide_eq_true c5
  clear c5
  by_cases c6 : (ji4 : Int).toNat ≤ 35184372088832
  ·rw [if_pos c6] at H
   have c6b0 := eq_true c6
   have c6b1 : decide ((ji4 : Int).toNat ≤ 35184372088832) = true := decide_eq_true c6
   clear c6
   obtain ⟨y273, hy273⟩ : ∃ y_ : List Int, y_ = (List.replicate (ji4 : Int).toNat 0) := ⟨_, rfl⟩
   replace H : (impl_addCurves.l0 k a0 l1 l2 y273 (y273.length : Int) 0) = some r := by first | (rw [hy273]; with_reducible exact H) | (have H2_ := (Option.bind_some _ _).symm.trans H; rw [hy273]; with_reducible exact H2_) | (have H2_ := (Option.bind_some _ _).symm.trans H; with_reducible exact H2_) | with_reducible exact H | (rw [hy273]; exact H) | exact H
   have Ny273 := Aside0.mk hy273
   clear hy273
   have H' := Aside0.mk H
   clear H
   go_enter Try.func109, Try.ntmps109
   go_wp2_with (first | ((with_reducible refine gate_dst (N := 14) rfl ?_); refine Kd.R_make (Kd.int .i64) _ 2 rfl (N := 14) rfl 24 _ _ rfl ji4 rfl rfl Try.underlying24 (.int .i64 0) 8 info2 rfl (by decide) (by omega) 0 (ok := fun _ => True) (okp := fun _ => True) rfl (fun _ hk => hk) trivial (A1_) (Nat.le_trans (Nat.mul_le_mul_right _ (A1_ : ji4.toNat ≤ 35184372088832)) (by omega)) (Below.refl _ _) (Nat.le_refl _) ?_; intro v274 w7 ho8 hb hg_ hnew_; clear hg_ hnew_; (first | rw [← Ny273.out] at ho8 | (simp only [Int.reduceToNat] at ho8; rw [← Ny273.out] at ho8)); have n0_ := Aside0.mk (Kd.R_lower ho8 (below_size B_)); have n1_ := Aside0.mk (below_step B_ hb); clear HB; have HO275 := n0_; have HB := n1_; clear n0_ n1_; clear hb ho8; obtain ⟨Ao9, co9, eo9⟩ := Kd.R_slice HO275.out; subst eo9))
   go_loopg [17] k (fun kq v17 w' => ∃ (x7_1 : List Int) (x17_1 : Int), v17 = .int .i64 x17_1 ∧ Aside0 (impl_addCurves.l0 kq a0 l1 l2 x7_1 (y273.length : Int) x17_1 = some r) ∧ Aside0 (kq ≤ k) ∧ Aside0 (Kd.R (Kd.int .i64) 2 w' w.heap.size (fun _ => True) (.slice Ao9 y273.length co9) x7_1) ∧ Aside0 (Below w.heap.size w w'))
   case atStart => exact ⟨(y273), (0), R_, H', ⟨Nat.le_refl _⟩, ⟨by (with_reducible repeat (first | apply Kd.R_alloc | apply Kd.R_drewN | apply Kd.R_drew)); exact HO275.out⟩, ⟨B_⟩⟩
   case round =>
    clear H'
    try clear c1
    try clear c2
    try clear p2
    try clear c5
    try clear c5b0
    try clear c5b1
    try clear c6
    try clear c6b0
    try clear c6b1
    obtain ⟨x7_1, x17_1, rfl, HA, HK1, HO_7, HB⟩ := hrel
    have hl7_1 := (Kd.R_reads' HO_7.out).1
    rw [hl7_1] at HO_7
    (try simp only [hl7_1])
    cases gk with
    | zero => exact absurd HA.out (by simp [impl_addCurves.l0])
    | succ k1 =>
     have H := HA.out
     clear HA
     simp only [impl_addCurves.l0] at H
     by_cases c10 : x17_1 < (y273.length : Int)
     ·rw [if_pos c10] at H
      have c10b0 : decide (x17_1 < (y273.length : Int)) = true := decide_eq_true c10
      (try (have c10b0h := c10b0; simp only [hl7_1] at c10b0h))
      clear c10
      by_cases c11 : x17_1 < (l1.length : Int)
      ·rw [if_pos c11] at H
       have c11b0 : decide (x17_1 < (l1.length : Int)) = true := decide_eq_true c11
       (try (have c11b0h := c11b0; simp only [hl7_1] at c11b0h))
       clear c11
       by_cases c12 : 0 ≤ x17_1
       ·rw [if_pos c12] at H
        have c12b0 : decide (0 ≤ x17_1) = true := decide_eq_true c12
        clear c12
        by_cases c13 : x17_1 < (x7_1.length : Int)
        ·rw [if_pos c13] at H
         have c13b0 : decide (x17_1 < (x7_1.length : Int)) = true := decide_eq_true c13
         (try (have c13b0h := c13b0; simp only [hl7_1] at c13b0h))
         clear c13
         obtain ⟨y278, hy278⟩ : ∃ y_ : List Int, y_ = (x7_1.set (x17_1 : Int).toNat (wrap64 ((rd x7_1 x17_1) + (rd l1 x17_1)))) := ⟨_, rfl⟩
         replace H : (if x17_1 < (l2.length : Int) then (if a0 = 0 then (none) else (impl_addCurves.l0 k1 a0 l1 l2 ((y278.set (x17_1 : Int).toNat (wrap64 ((rd y278 x17_1) + (rd l2 x17_1)))).set (x17_1 : Int).toNat (Int.tmod (wrap64 ((rd y278 x17_1) + (rd l2 x17_1))) a0)) (y273.length : Int) (wrap64 (x17_1 + 1)))) else (if a0 = 0 then (none) else (impl_addCurves.l0 k1 a0 l1 l2 (y278.set (x17_1 : Int).toNat (Int.tmod (wrap64 ((rd x7_1 x17_1) + (rd l1 x17_1))) a0)) (y273.length : Int) (wrap64 (x17_1 + 1))))) = some r := by first | (rw [hy278]; with_reducible exact H) | (have H2_ := (Option.bind_some _ _).symm.trans H; rw [hy278]; with_reducible exact H2_) | (have H2_ := (Option.bind_some _ _).symm.trans H; with_reducible exact H2_) | with_reducible exact H | (rw [hy278]; exact H) | exact H
         have Ny278 := Aside0.mk hy278
         clear hy278
         by_cases c15 : x17_1 < (l2.length : Int)
         ·rw [if_pos c15] at H
          have c15b0 : decide (x17_1 < (l2.length : Int)) = true := decide_eq_true c15
          (try (have c15b0h := c15b0; simp only [hl7_1] at c15b0h))
          clear c15
          obtain ⟨y281, hy281⟩ : ∃ y_ : List Int, y_ = (y278.set (x17_1 : Int).toNat (wrap64 ((rd y278 x17_1) + (rd l2 x17_1)))) := ⟨_, rfl⟩
          replace H : (if a0 = 0 then (none) else (impl_addCurves.l0 k1 a0 l1 l2 (y281.set (x17_1 : Int).toNat (Int.tmod (wrap64 ((rd y278 x17_1) + (rd l2 x17_1))) a0)) (y273.length : Int) (wrap64 (x17_1 + 1)))) = some r := by first | (rw [hy281]; with_reducible exact H) | (have H2_ := (Option.bind_some _ _).symm.trans H; rw [hy281]; with_reducible exact H2_) | (have H2_ := (Option.bind_some _ _).symm.trans H; with_reducible exact H2_) | with_reducible exact H | (rw [hy281]; exact H) | exact H
          have Ny281 := Aside0.mk hy281
          clear hy281
          by_cases c18 : a0 = 0
          ·rw [if_pos c18] at H
           exact absurd H (by simp)
          ·rw [if_neg c18] at H
           have c18b0 : (a0 == 0) = false := beq_eq_false_iff_ne.mpr c18
           have c18b1 : (a0 != 0) = true := bne_iff_ne.mpr c18
           obtain ⟨y283, hy283⟩ : ∃ y_ : List Int, y_ = (y281.set (x17_1 : Int).toNat (Int.tmod (wrap64 ((rd y278 x17_1) + (rd l2 x17_1))) a0)) := ⟨_, rfl⟩
           replace H : (impl_addCurves.l0 k1 a0 l1 l2 y283 (y273.length : Int) (wrap64 (x17_1 + 1))) = some r := by first | (rw [hy283]; with_reducible exact H) | (have H2_ := (Option.bind_some _ _).symm.trans H; rw [hy283]; with_reducible exact H2_) | (have H2_ := (Option.bind_some _ _).symm.trans H; with_reducible exact H2_) | with_reducible exact H | (rw [hy283]; exact H) | exact H
           have Ny283 := Aside0.mk hy283
           clear hy283
           have H' := Aside0.mk H
           clear H
           try go_wp2
           have n0_ := Aside0.mk (Kd.R_drew HO_7.out)
           have n1_ := Aside0.mk (below_drew1 HB.out)
           clear HO_7
           clear HB
           have HO_7 := n0_
           have HB := n1_
           clear n0_ n1_
           have p276 : 0 ≤ (x17_1 : Int) := A1_
           have q276 : x17_1 < (x7_1.length : Int) := A1_
           obtain ⟨ad276, e276, hx276_0⟩ := Kd.at_int (Kd.R_reads' HO_7.out).2.2 x17_1 p276 q276
           cases e276
           replace p276 := eq_true p276
           replace q276 := eq_true q276
           have p277 : 0 ≤ (x17_1 : Int) := A1_
           have q277 : x17_1 < (l1.length : Int) := A1_
           obtain ⟨ad277, e277, hx277_0⟩ := Kd.at_int HR1.out x17_1 p277 q277
           have hw277_0 := hx277_0
           cases e277
           replace hx277_0 := (HB.out.cell (World.block_lt_of_cell? w _ hx277_0)).trans hx277_0
           replace p277 := eq_true p277
           replace q277 := eq_true q277
           have p14 : 0 ≤ (x17_1 : Int) := A1_
           have q14 : (x17_1 : Int) < ((x7_1.length : Int) : Int) := A1_
           obtain ⟨go14, co14, eo14, gb14, gl14, cl14, HG14⟩ := Kd.R_form HO_7.out (by omega)
           (first | cases eo14 | (injection eo14 with ea_ en_ ec_; (first | subst ea_ | (injection ea_ with ea_; subst ea_)); subst ec_; clear en_))
           have GB14 := Aside0.mk gb14
           have GG14 := Aside0.mk HG14
           clear gb14 gl14 HG14
           (first | simp only [add_plain] at hx276_0 | skip)
           obtain ⟨hx14_0, hf14_0⟩ := Kd.R_celln 0 HO_7.out (x17_1 : Int) p14 q14
           replace p14 := eq_true p14
           replace q14 := eq_true q14
           have HP21 := Kd.R_putn HO_7.out (x17_1 : Int) (wrap64 ((rd x7_1 x17_1) + (rd l1 x17_1)))
           rw [← Ny278.out] at HP21
           have HQ21 := Aside0.mk HP21
           clear HP21
           refine start_ (n := 11) (S := fun w' => w'.cell? ⟨go14, (x17_1).toNat, none⟩ = some (.int .i64 (rd x7_1 x17_1)) ∧ w'.cell? (ad277.add (x17_1).toNat) = some (.int .i64 (rd l1 x17_1))) (ds := [10]) #[false, false, false, false, false, false, false, false, false, false, false] (by kernel_rfl) rfl rfl ⟨hx276_0, ((HB.out.cell (World.block_lt_of_cell? w _ hw277_0)).trans hw277_0)⟩ (fun hHeld => ?_); refine with_tabW impl_addCurves.tab6 impl_addCurves.bits6 (fun HT_ HW_ => ?_)
           generalize wr.drew = w20 at HO_7 HB GG14 HQ21 hf14_0 hx14_0 hx276_0 hx277_0 hHeld ⊢
           refine pure_ (i := 0) (N := some 24) (v := ?_) (a' := ?_) #[true, false, false, false, false, false, false, false, false, false, false] rfl rfl (any_of HT_.out (by kernel_rfl)) (fun _ _ _ h => h) (Or.inl ⟨by rfl, ?_⟩) ?_ ?_
           rotate_left
           ·intro w'
            go_simp
            with_reducible rfl
           rotate_left
           ·simp only [Act.put, List.setIfInBounds_toArray, List.set_cons_zero, List.set_cons_succ, i64_w, i32_w]
            rfl
           refine pure_ (i := 1) (N := some 25) (v := ?_) (a' := ?_) #[true, true, false, false, false, false, false, false, false, false, false] rfl rfl (any_of HT_.out (by kernel_rfl)) (fun _ _ _ h => h) (Or.inl ⟨by rfl, ?_⟩) ?_ ?_
           rotate_left
           ·intro w'
            go_simp
            with_reducible rfl
           rotate_left
           ·simp only [Act.put, List.setIfInBounds_toArray, List.set_cons_zero, List.set_cons_succ, i64_w, i32_w]
            rfl
           refine pure_ (i := 2) (N := some 26) (v := ?_) (a' := ?_) #[true, true, true, false, false, false, false, false, false, false, false] rfl rfl (any_of HT_.out (by kernel_rfl)) (fun _ _ _ h => h) (Or.inl ⟨by rfl, ?_⟩) ?_ ?_
           rotate_left
           ·intro w'
            go_simp
            with_reducible rfl
           rotate_left
           ·simp only [Act.put, List.setIfInBounds_toArray, List.set_cons_zero, List.set_cons_succ, i64_w, i32_w]
            rfl
           refine pure_ (i := 4) (N := some 28) (v := ?_) (a' := ?_) #[true, true, true, false, true, false, false, false, false, false, false] rfl rfl (any_of HT_.out (by kernel_rfl)) (fun _ _ _ h => h) (Or.inl ⟨by rfl, ?_⟩) ?_ ?_
           rotate_left
           ·intro w'
            go_simp
            with_reducible rfl
           rotate_left
           ·simp only [Act.put, List.setIfInBounds_toArray, List.set_cons_zero, List.set_cons_succ, i64_w, i32_w]
            rfl
           refine pure_ (i := 5) (N := some 29) (v := ?_) (a' := ?_) #[true, true, true, false, true, true, false, false, false, false, false] rfl rfl (any_of HT_.out (by kernel_rfl)) (fun _ _ _ h => h) (Or.inl ⟨by rfl, ?_⟩) ?_ ?_
           rotate_left
           ·intro w'
            go_simp
            with_reducible rfl
           rotate_left
           ·simp only [Act.put, List.setIfInBounds_toArray, List.set_cons_zero, List.set_cons_succ, i64_w, i32_w]
            rfl
           refine pure_ (i := 6) (N := some 30) (v := ?_) (a' := ?_) #[true, true, true, false, true, true, true, false, false, false, false] rfl rfl (any_of HT_.out (by kernel_rfl)) (fun _ _ _ h => h) (Or.inl ⟨by rfl, ?_⟩) ?_ ?_
           rotate_left
           ·intro w'
            go_simp
            with_reducible rfl
           rotate_left
           ·simp only [Act.put, List.setIfInBounds_toArray, List.set_cons_zero, List.set_cons_succ, i64_w, i32_w]
            rfl
           refine take_ (i := 3) (N := some 27) (v := ?_) (a' := ?_) #[true, true, true, true, true, true, true, false, false, false, false] rfl rfl (take_ofW HT_.out HW_.out (by kernel_rfl)) (fun _ _ _ h => h) (Or.inl ⟨by rfl, ?_⟩) hHeld ?_ ?_
           rotate_left
           ·rintro w' ⟨s0, s1⟩
            go_simp
            with_reducible rfl
           rotate_left
           ·simp only [Act.put, List.setIfInBounds_toArray, List.set_cons_zero, List.set_cons_succ, i64_w, i32_w]
            rfl
           refine take_ (i := 7) (N := some 31) (v := ?_) (a' := ?_) #[true, true, true, true, true, true, true, true, false, false, false] rfl rfl (take_ofW HT_.out HW_.out (by kernel_rfl)) (fun _ _ _ h => h) (Or.inl ⟨by rfl, ?_⟩) hHeld ?_ ?_
           rotate_left
           ·rintro w' ⟨s0, s1⟩
            go_simp
            with_reducible rfl
           rotate_left
           ·simp only [Act.put, List.setIfInBounds_toArray, List.set_cons_zero, List.set_cons_succ, i64_w, i32_w]
            rfl
           refine pure_ (i := 8) (N := some 32) (v := ?_) (a' := ?_) #[true, true, true, true, true, true, true, true, true, false, false] rfl rfl (any_of HT_.out (by kernel_rfl)) (fun _ _ _ h => h) (Or.inl ⟨by rfl, ?_⟩) ?_ ?_
           rotate_left
           ·intro w'
            go_simp
            with_reducible rfl
           rotate_left
           ·simp only [Act.put, List.setIfInBounds_toArray, List.set_cons_zero, List.set_cons_succ, i64_w, i32_w]
            rfl
           refine pure_ (i := 9) (N := some 33) (v := ?_) (a' := ?_) #[true, true, true, true, true, true, true, true, true, true, false] rfl rfl (any_of HT_.out (by kernel_rfl)) (fun _ _ _ h => h) (Or.inl ⟨by rfl, ?_⟩) ?_ ?_
           rotate_left
           ·intro w'
            go_simp
            with_reducible rfl
           rotate_left
           ·simp only [Act.put, List.setIfInBounds_toArray, List.set_cons_zero, List.set_cons_succ, i64_w, i32_w]
            rfl
           refine last_ (i := 10) (N := none) #[true, true, true, true, true, true, true, true, true, true, true] rfl rfl (one_of HT_.out (by kernel_rfl)) (by decide) (fun K hK => ?_)
           refine skip_ (w1 := ?_) (by rfl) rfl ?_ ?_
           rotate_left
           ·go_simp
            rfl
           refine hK.out _ _ ?_
           clear hK K
           refine done_ (done_of HT_.out (by kernel_rfl)) ?_
           try go_wp2
           have n0_ : Aside0 (Kd.R (Kd.int .i64) 2 (w20.setCell ⟨go14, (x17_1 : Int).toNat, none⟩ (.int .i64 (wrap64 ((rd x7_1 x17_1) + (rd l1 x17_1))))) w.heap.size (fun _ => True) (.slice (some ⟨go14, 0, none⟩) x7_1.length co9) y278) := ⟨by (with_reducible repeat (first | apply Kd.R_alloc | apply Kd.R_drewN | apply Kd.R_drew)); exact HQ21.out⟩
           have n1_ : Aside0 (Below w.heap.size w (w20.setCell ⟨go14, (x17_1 : Int).toNat, none⟩ (.int .i64 (wrap64 ((rd x7_1 x17_1) + (rd l1 x17_1)))))) := ⟨by repeat (first | (with_reducible first | exact HB.out | apply below_alloc | apply pw_below_drewN | apply below_drew1 | refine below_set ?_ GB14.out) | exact HB.out)⟩
           (try clear HO_7)
           (try clear HB)
           generalize (w20.setCell ⟨go14, (x17_1 : Int).toNat, none⟩ (.int .i64 (wrap64 ((rd x7_1 x17_1) + (rd l1 x17_1))))) = w22 at n0_ n1_ ⊢
           have HO_7 := n0_
           have HB := n1_
           clear n0_ n1_
           have n0_ := Aside0.mk (Kd.R_drew HO_7.out)
           have n1_ := Aside0.mk (below_drew1 HB.out)
           clear HO_7
           clear HB
           have HO_7 := n0_
           have HB := n1_
           clear n0_ n1_
           have p279 : 0 ≤ (x17_1 : Int) := A1_
           have q279 : x17_1 < (y278.length : Int) := (by have h_ : (x17_1 : Int) < ((x7_1.length : Int) : Int) := A1_; first | (have e_ := (Kd.R_reads' HO_7.out).1; omega) | simpa only [Ny278.out, List.length_set] using h_)
           have ql279 : ((x17_1 : Int) < ((x7_1.length : Int) : Int)) = True := eq_true (A1_)
           obtain ⟨ad279, e279, hx279_0⟩ := Kd.at_int (Kd.R_reads' HO_7.out).2.2 x17_1 p279 q279
           obtain rfl : (⟨go14, 0, none⟩ : Addr) = ad279 := (by injection e279)
           (first | simp only [add_plain] at hx279_0 | simp only [add_at] at hx279_0 | simp only [Addr.add, Nat.zero_add] at hx279_0 | skip)
           replace p279 := eq_true p279
           replace q279 := eq_true q279
           have p280 : 0 ≤ (x17_1 : Int) := A1_
           have q280 : x17_1 < (l2.length : Int) := A1_
           obtain ⟨ad280, e280, hx280_0⟩ := Kd.at_int HR2.out x17_1 p280 q280
           have hw280_0 := hx280_0
           cases e280
           replace hx280_0 := (HB.out.cell (World.block_lt_of_cell? w _ hx280_0)).trans hx280_0
           replace p280 := eq_true p280
           replace q280 := eq_true q280
           have p16 : 0 ≤ (x17_1 : Int) := A1_
           have q16 : (x17_1 : Int) < ((x7_1.length : Int) : Int) := A1_
           obtain ⟨hx16_0, hf16_0⟩ := Kd.R_celln 0 HO_7.out (x17_1 : Int) p16 q16
           replace p16 := eq_true p16
           replace q16 := eq_true q16
           have HP24 := Kd.R_putn HO_7.out (x17_1 : Int) (wrap64 ((rd y278 x17_1) + (rd l2 x17_1)))
           rw [← Ny281.out] at HP24
           have HQ24 := Aside0.mk HP24
           clear HP24
           refine start_ (n := 11) (S := fun w' => w'.cell? ⟨go14, (x17_1).toNat, none⟩ = some (.int .i64 (rd y278 x17_1)) ∧ w'.cell? (ad280.add (x17_1).toNat) = some (.int .i64 (rd l2 x17_1))) (ds := [10]) #[false, false, false, false, false, false, false, false, false, false, false] (by kernel_rfl) rfl rfl ⟨hx279_0, ((HB.out.cell (World.block_lt_of_cell? w _ hw280_0)).trans hw280_0)⟩ (fun hHeld => ?_); refine with_tabW impl_addCurves.tab8 impl_addCurves.bits8 (fun HT_ HW_ => ?_)
           generalize w22.drew = w23 at HO_7 HB HQ21 HQ24 hf16_0 hx16_0 hx279_0 hx280_0 hHeld ⊢
           refine pure_ (i := 0) (N := some 38) (v := ?_) (a' := ?_) #[true, false, false, false, false, false, false, false, false, false, false] rfl rfl (any_of HT_.out (by kernel_rfl)) (fun _ _ _ h => h) (Or.inl ⟨by rfl, ?_⟩) ?_ ?_
           rotate_left
           ·intro w'
            go_simp
            with_reducible rfl
           rotate_left
           ·simp only [Act.put, List.setIfInBounds_toArray, List.set_cons_zero, List.set_cons_succ, i64_w, i32_w]
            rfl
           refine pure_ (i := 1) (N := some 39) (v := ?_) (a' := ?_) #[true, true, false, false, false, false, false, false, false, false, false] rfl rfl (any_of HT_.out (by kernel_rfl)) (fun _ _ _ h => h) (Or.inl ⟨by rfl, ?_⟩) ?_ ?_
           rotate_left
           ·intro w'
            go_simp
            with_reducible rfl
           rotate_left
           ·simp only [Act.put, List.setIfInBounds_toArray, List.set_cons_zero, List.set_cons_succ, i64_w, i32_w]
            rfl
           refine pure_ (i := 2) (N := some 40) (v := ?_) (a' := ?_) #[true, true, true, false, false, false, false, false, false, false, false] rfl rfl (any_of HT_.out (by kernel_rfl)) (fun _ _ _ h => h) (Or.inl ⟨by rfl, ?_⟩) ?_ ?_
           rotate_left
           ·intro w'
            go_simp
            with_reducible rfl
           rotate_left
           ·simp only [Act.put, List.setIfInBounds_toArray, List.set_cons_zero, List.set_cons_succ, i64_w, i32_w]
            rfl
           refine pure_ (i := 4) (N := some 42) (v := ?_) (a' := ?_) #[true, true, true, false, true, false, false, false, false, false, false] rfl rfl (any_of HT_.out (by kernel_rfl)) (fun _ _ _ h => h) (Or.inl ⟨by rfl, ?_⟩) ?_ ?_
           rotate_left
           ·intro w'
            go_simp
            with_reducible rfl
           rotate_left
           ·simp only [Act.put, List.setIfInBounds_toArray, List.set_cons_zero, List.set_cons_succ, i64_w, i32_w]
            rfl
           refine pure_ (i := 5) (N := some 43) (v := ?_) (a' := ?_) #[true, true, true, false, true, true, false, false, false, false, false] rfl rfl (any_of HT_.out (by kernel_rfl)) (fun _ _ _ h => h) (Or.inl ⟨by rfl, ?_⟩) ?_ ?_
           rotate_left
           ·intro w'
            go_simp
            with_reducible rfl
           rotate_left
           ·simp only [Act.put, List.setIfInBounds_toArray, List.set_cons_zero, List.set_cons_succ, i64_w, i32_w]
            rfl
           refine pure_ (i := 6) (N := some 44) (v := ?_) (a' := ?_) #[true, true, true, false, true, true, true, false, false, false, false] rfl rfl (any_of HT_.out (by kernel_rfl)) (fun _ _ _ h => h) (Or.inl ⟨by rfl, ?_⟩) ?_ ?_
           rotate_left
           ·intro w'
            go_simp
            with_reducible rfl
           rotate_left
           ·simp only [Act.put, List.setIfInBounds_toArray, List.set_cons_zero, List.set_cons_succ, i64_w, i32_w]
            rfl
           refine take_ (i := 3) (N := some 41) (v := ?_) (a' := ?_) #[true, true, true, true, true, true, true, false, false, false, false] rfl rfl (take_ofW HT_.out HW_.out (by kernel_rfl)) (fun _ _ _ h => h) (Or.inl ⟨by rfl, ?_⟩) hHeld ?_ ?_
           rotate_left
           ·rintro w' ⟨s0, s1⟩
            go_simp
            with_reducible rfl
           rotate_left
           ·simp only [Act.put, List.setIfInBounds_toArray, List.set_cons_zero, List.set_cons_succ, i64_w, i32_w]
            rfl
           refine take_ (i := 7) (N := some 45) (v := ?_) (a' := ?_) #[true, true, true, true, true, true, true, true, false, false, false] rfl rfl (take_ofW HT_.out HW_.out (by kernel_rfl)) (fun _ _ _ h => h) (Or.inl ⟨by rfl, ?_⟩) hHeld ?_ ?_
           rotate_left
           ·rintro w' ⟨s0, s1⟩
            go_simp
            with_reducible rfl
           rotate_left
           ·simp only [Act.put, List.setIfInBounds_toArray, List.set_cons_zero, List.set_cons_succ, i64_w, i32_w]
            rfl
           refine pure_ (i := 8) (N := some 46) (v := ?_) (a' := ?_) #[true, true, true, true, true, true, true, true, true, false, false] rfl rfl (any_of HT_.out (by kernel_rfl)) (fun _ _ _ h => h) (Or.inl ⟨by rfl, ?_⟩) ?_ ?_
           rotate_left
           ·intro w'
            go_simp
            with_reducible rfl
           rotate_left
           ·simp only [Act.put, List.setIfInBounds_toArray, List.set_cons_zero, List.set_cons_succ, i64_w, i32_w]
            rfl
           refine pure_ (i := 9) (N := some 47) (v := ?_) (a' := ?_) #[true, true, true, true, true, true, true, true, true, true, false] rfl rfl (any_of HT_.out (by kernel_rfl)) (fun _ _ _ h => h) (Or.inl ⟨by rfl, ?_⟩) ?_ ?_
           rotate_left
           ·intro w'
            go_simp
            with_reducible rfl
           rotate_left
           ·simp only [Act.put, List.setIfInBounds_toArray, List.set_cons_zero, List.set_cons_succ, i64_w, i32_w]
            rfl
           refine last_ (i := 10) (N := none) #[true, true, true, true, true, true, true, true, true, true, true] rfl rfl (one_of HT_.out (by kernel_rfl)) (by decide) (fun K hK => ?_)
           refine skip_ (w1 := ?_) (by rfl) rfl ?_ ?_
           rotate_left
           ·go_simp
            rfl
           refine hK.out _ _ ?_
           clear hK K
           refine done_ (done_of HT_.out (by kernel_rfl)) ?_
           have n0_ : Aside0 (Kd.R (Kd.int .i64) 2 (w23.setCell ⟨go14, (x17_1 : Int).toNat, none⟩ (.int .i64 (wrap64 ((rd y278 x17_1) + (rd l2 x17_1))))) w.heap.size (fun _ => True) (.slice (some ⟨go14, 0, none⟩) x7_1.length co9) y281) := ⟨by (with_reducible repeat (first | apply Kd.R_alloc | apply Kd.R_drewN | apply Kd.R_drew)); exact HQ24.out⟩
           have n1_ : Aside0 (Below w.heap.size w (w23.setCell ⟨go14, (x17_1 : Int).toNat, none⟩ (.int .i64 (wrap64 ((rd y278 x17_1) + (rd l2 x17_1)))))) := ⟨by repeat (first | (with_reducible first | exact HB.out | apply below_alloc | apply pw_below_drewN | apply below_drew1 | refine below_set ?_ GB14.out) | exact HB.out)⟩
           (try clear HO_7)
           (try clear HB)
           generalize (w23.setCell ⟨go14, (x17_1 : Int).toNat, none⟩ (.int .i64 (wrap64 ((rd y278 x17_1) + (rd l2 x17_1))))) = w25 at n0_ n1_ ⊢
           have HO_7 := n0_
           have HB := n1_
           clear n0_ n1_
           have p17 : 0 ≤ (x17_1 : Int) := A1_
           have q17 : (x17_1 : Int) < ((x7_1.length : Int) : Int) := A1_
           replace p17 := eq_true p17
           replace q17 := eq_true q17
           have p19 : 0 ≤ (x17_1 : Int) := A1_
           have q19 : (x17_1 : Int) < ((x7_1.length : Int) : Int) := A1_
           replace p19 := eq_true p19
           replace q19 := eq_true q19
           obtain ⟨hy26_, hz26_⟩ := Kd.R_celln 0 HO_7.out (x17_1 : Int) (A1_) (A1_)
           (try rw [rd_last Ny281.out (by first | exact (Kd.R_reads' HO_7.out).1 | exact (Kd.R_reads' HO_7.out).1.symm) (A1_) (A1_)] at hy26_)
           have HP26 := Kd.R_putg HO_7.out (x17_1 : Int) (Int.tmod (wrap64 ((rd y278 x17_1) + (rd l2 x17_1))) a0)
           try go_wp2_with (first | ((with_reducible refine gate_store (t := 2) (p := 54) rfl ?_); refine store_event (t := 2) (p := 54) (v := ?vo_w27) (w1 := (w25.setCell ⟨go14, (x17_1 : Int).toNat, none⟩ (.int .i64 (Int.tmod (wrap64 ((rd y278 x17_1) + (rd l2 x17_1))) a0)))) ?hg ?ho ?hn ?hr ?_; (case ho => rfl); (case hg => rfl); (case hn => rfl); (case hr => first | (go_simp; done) | (go_simp; rfl)); intro w27 hw; have hg : w25.grownBy w27 (some go14) := (by rw [hw]; exact HP26.2); have hp_ : Kd.R (Kd.int .i64) 2 w27 w.heap.size (fun _ => True) (.slice (some ⟨go14, 0, none⟩) x7_1.length co9) y283 := (by rw [hw, Ny283.out]; exact HP26.1); clear HP26; have n0_ := Aside0.mk (hp_); have n1_ := Aside0.mk ((by rw [hw]; exact below_set (HB.out) GB14.out : Below w.heap.size w w27)); clear HO_7; clear HB; have HO_7 := n0_; have HB := n1_; clear n0_ n1_; clear hg hw hp_))
           (try simp only [← hl7_1])
           go_roundg k1
           case measure => have := HK1.out; omega
           case rel => exact ⟨(y283), (wrap64 (x17_1 + 1)), R_, H', ⟨by have := HK1.out; omega⟩, ⟨by (try simp only [hl7_1]); (with_reducible repeat (first | apply Kd.R_alloc | apply Kd.R_drewN | apply Kd.R_drew)); exact HO_7.out⟩, ⟨B_⟩⟩
         ·rw [if_neg c15] at H
          have c15b0 : decide (x17_1 < (l2.length : Int)) = false := decide_eq_false c15
          (try (have c15b0h := c15b0; simp only [hl7_1] at c15b0h))
          clear c15
          by_cases c29 : a0 = 0
          ·rw [if_pos c29] at H
           exact absurd H (by simp)
          ·rw [if_neg c29] at H
           have c29b0 : (a0 == 0) = false := beq_eq_false_iff_ne.mpr c29
           have c29b1 : (a0 != 0) = true := bne_iff_ne.mpr c29
           obtain ⟨y285, hy285⟩ : ∃ y_ : List Int, y_ = (y278.set (x17_1 : Int).toNat (Int.tmod (wrap64 ((rd x7_1 x17_1) + (rd l1 x17_1))) a0)) := ⟨_, rfl⟩
           replace H : (impl_addCurves.l0 k1 a0 l1 l2 y285 (y273.length : Int) (wrap64 (x17_1 + 1))) = some r := by first | (rw [hy285]; with_reducible exact H) | (have H2_ := (Option.bind_some _ _).symm.trans H; rw [hy285]; with_reducible exact H2_) | (have H2_ := (Option.bind_some _ _).symm.trans H; with_reducible exact H2_) | with_reducible exact H | (rw [hy285]; exact H) | exact H
           have Ny285 := Aside0.mk hy285
           clear hy285
           have H' := Aside0.mk H
           clear H
           try go_wp2
           have n0_ := Aside0.mk (Kd.R_drew HO_7.out)
           have n1_ := Aside0.mk (below_drew1 HB.out)
           clear HO_7
           clear HB
           have HO_7 := n0_
           have HB := n1_
           clear n0_ n1_
           have p276 : 0 ≤ (x17_1 : Int) := A1_
           have q276 : x17_1 < (x7_1.length : Int) := A1_
           obtain ⟨ad276, e276, hx276_0⟩ := Kd.at_int (Kd.R_reads' HO_7.out).2.2 x17_1 p276 q276
           cases e276
           replace p276 := eq_true p276
           replace q276 := eq_true q276
           have p277 : 0 ≤ (x17_1 : Int) := A1_
           have q277 : x17_1 < (l1.length : Int) := A1_
           obtain ⟨ad277, e277, hx277_0⟩ := Kd.at_int HR1.out x17_1 p277 q277
           have hw277_0 := hx277_0
           cases e277
           replace hx277_0 := (HB.out.cell (World.block_lt_of_cell? w _ hx277_0)).trans hx277_0
           replace p277 := eq_true p277
           replace q277 := eq_true q277
           have p14 : 0 ≤ (x17_1 : Int) := A1_
           have q14 : (x17_1 : Int) < ((x7_1.length : Int) : Int) := A1_
           obtain ⟨go14, co14, eo14, gb14, gl14, cl14, HG14⟩ := Kd.R_form HO_7.out (by omega)
           (first | cases eo14 | (injection eo14 with ea_ en_ ec_; (first | subst ea_ | (injection ea_ with ea_; subst ea_)); subst ec_; clear en_))
           have GB14 := Aside0.mk gb14
           have GG14 := Aside0.mk HG14
           clear gb14 gl14 HG14
           (first | simp only [add_plain] at hx276_0 | skip)
           obtain ⟨hx14_0, hf14_0⟩ := Kd.R_celln 0 HO_7.out (x17_1 : Int) p14 q14
           replace p14 := eq_true p14
           replace q14 := eq_true q14
           have HP32 := Kd.R_putn HO_7.out (x17_1 : Int) (wrap64 ((rd x7_1 x17_1) + (rd l1 x17_1)))
           rw [← Ny278.out] at HP32
           have HQ32 := Aside0.mk HP32
           clear HP32
           refine start_ (n := 11) (S := fun w' => w'.cell? ⟨go14, (x17_1).toNat, none⟩ = some (.int .i64 (rd x7_1 x17_1)) ∧ w'.cell? (ad277.add (x17_1).toNat) = some (.int .i64 (rd l1 x17_1))) (ds := [10]) #[false, false, false, false, false, false, false, false, false, false, false] (by kernel_rfl) rfl rfl ⟨hx276_0, ((HB.out.cell (World.block_lt_of_cell? w _ hw277_0)).trans hw277_0)⟩ (fun hHeld => ?_); refine with_tabW impl_addCurves.tab6 impl_addCurves.bits6 (fun HT_ HW_ => ?_)
           generalize wr.drew = w31 at HO_7 HB GG14 HQ32 hf14_0 hx14_0 hx276_0 hx277_0 hHeld ⊢
           refine pure_ (i := 0) (N := some 24) (v := ?_) (a' := ?_) #[true, false, false, false, false, false, false, false, false, false, false] rfl rfl (any_of HT_.out (by kernel_rfl)) (fun _ _ _ h => h) (Or.inl ⟨by rfl, ?_⟩) ?_ ?_
           rotate_left
           ·intro w'
            go_simp
            with_reducible rfl
           rotate_left
           ·simp only [Act.put, List.setIfInBounds_toArray, List.set_cons_zero, List.set_cons_succ, i64_w, i32_w]
            rfl
           refine pure_ (i := 1) (N := some 25) (v := ?_) (a' := ?_) #[true, true, false, false, false, false, false, false, false, false, false] rfl rfl (any_of HT_.out (by kernel_rfl)) (fun _ _ _ h => h) (Or.inl ⟨by rfl, ?_⟩) ?_ ?_
           rotate_left
           ·intro w'
            go_simp
            with_reducible rfl
           rotate_left
           ·simp only [Act.put, List.setIfInBounds_toArray, List.set_cons_zero, List.set_cons_succ, i64_w, i32_w]
            rfl
           refine pure_ (i := 2) (N := some 26) (v := ?_) (a' := ?_) #[true, true, true, false, false, false, false, false, false, false, false] rfl rfl (any_of HT_.out (by kernel_rfl)) (fun _ _ _ h => h) (Or.inl ⟨by rfl, ?_⟩) ?_ ?_
           rotate_left
           ·intro w'
            go_simp
            with_reducible rfl
           rotate_left
           ·simp only [Act.put, List.setIfInBounds_toArray, List.set_cons_zero, List.set_cons_succ, i64_w, i32_w]
            rfl
           refine pure_ (i := 4) (N := some 28) (v := ?_) (a' := ?_) #[true, true, true, false, true, false, false, false, false, false, false] rfl rfl (any_of HT_.out (by kernel_rfl)) (fun _ _ _ h => h) (Or.inl ⟨by rfl, ?_⟩) ?_ ?_
           rotate_left
           ·intro w'
            go_simp
            with_reducible rfl
           rotate_left
           ·simp only [Act.put, List.setIfInBounds_toArray, List.set_cons_zero, List.set_cons_succ, i64_w, i32_w]
            rfl
           refine pure_ (i := 5) (N := some 29) (v := ?_) (a' := ?_) #[true, true, true, false, true, true, false, false, false, false, false] rfl rfl (any_of HT_.out (by kernel_rfl)) (fun _ _ _ h => h) (Or.inl ⟨by rfl, ?_⟩) ?_ ?_
           rotate_left
           ·intro w'
            go_simp
            with_reducible rfl
           rotate_left
           ·simp only [Act.put, List.setIfInBounds_toArray, List.set_cons_zero, List.set_cons_succ, i64_w, i32_w]
            rfl
           refine pure_ (i := 6) (N := some 30) (v := ?_) (a' := ?_) #[true, true, true, false, true, true, true, false, false, false, false] rfl rfl (any_of HT_.out (by kernel_rfl)) (fun _ _ _ h => h) (Or.inl ⟨by rfl, ?_⟩) ?_ ?_
           rotate_left
           ·intro w'
            go_simp
            with_reducible rfl
           rotate_left
           ·simp only [Act.put, List.setIfInBounds_toArray, List.set_cons_zero, List.set_cons_succ, i64_w, i32_w]
            rfl
           refine take_ (i := 3) (N := some 27) (v := ?_) (a' := ?_) #[true, true, true, true, true, true, true, false, false, false, false] rfl rfl (take_ofW HT_.out HW_.out (by kernel_rfl)) (fun _ _ _ h => h) (Or.inl ⟨by rfl, ?_⟩) hHeld ?_ ?_
           rotate_left
           ·rintro w' ⟨s0, s1⟩
            go_simp
            with_reducible rfl
           rotate_left
           ·simp only [Act.put, List.setIfInBounds_toArray, List.set_cons_zero, List.set_cons_succ, i64_w, i32_w]
            rfl
           refine take_ (i := 7) (N := some 31) (v := ?_) (a' := ?_) #[true, true, true, true, true, true, true, true, false, false, false] rfl rfl (take_ofW HT_.out HW_.out (by kernel_rfl)) (fun _ _ _ h => h) (Or.inl ⟨by rfl, ?_⟩) hHeld ?_ ?_
           rotate_left
           ·rintro w' ⟨s0, s1⟩
            go_simp
            with_reducible rfl
           rotate_left
           ·simp only [Act.put, List.setIfInBounds_toArray, List.set_cons_zero, List.set_cons_succ, i64_w, i32_w]
            rfl
           refine pure_ (i := 8) (N := some 32) (v := ?_) (a' := ?_) #[true, true, true, true, true, true, true, true, true, false, false] rfl rfl (any_of HT_.out (by kernel_rfl)) (fun _ _ _ h => h) (Or.inl ⟨by rfl, ?_⟩) ?_ ?_
           rotate_left
           ·intro w'
            go_simp
            with_reducible rfl
           rotate_left
           ·simp only [Act.put, List.setIfInBounds_toArray, List.set_cons_zero, List.set_cons_succ, i64_w, i32_w]
            rfl
           refine pure_ (i := 9) (N := some 33) (v := ?_) (a' := ?_) #[true, true, true, true, true, true, true, true, true, true, false] rfl rfl (any_of HT_.out (by kernel_rfl)) (fun _ _ _ h => h) (Or.inl ⟨by rfl, ?_⟩) ?_ ?_
           rotate_left
           ·intro w'
            go_simp
            with_reducible rfl
           rotate_left
           ·simp only [Act.put, List.setIfInBounds_toArray, List.set_cons_zero, List.set_cons_succ, i64_w, i32_w]
            rfl
           refine last_ (i := 10) (N := none) #[true, true, true, true, true, true, true, true, true, true, true] rfl rfl (one_of HT_.out (by kernel_rfl)) (by decide) (fun K hK => ?_)
           refine skip_ (w1 := ?_) (by rfl) rfl ?_ ?_
           rotate_left
           ·go_simp
            rfl
           refine hK.out _ _ ?_
           clear hK K
           refine done_ (done_of HT_.out (by kernel_rfl)) ?_
           have n0_ : Aside0 (Kd.R (Kd.int .i64) 2 (w31.setCell ⟨go14, (x17_1 : Int).toNat, none⟩ (.int .i64 (wrap64 ((rd x7_1 x17_1) + (rd l1 x17_1))))) w.heap.size (fun _ => True) (.slice (some ⟨go14, 0, none⟩) x7_1.length co9) y278) := ⟨by (with_reducible repeat (first | apply Kd.R_alloc | apply Kd.R_drewN | apply Kd.R_drew)); exact HQ32.out⟩
           have n1_ : Aside0 (Below w.heap.size w (w31.setCell ⟨go14, (x17_1 : Int).toNat, none⟩ (.int .i64 (wrap64 ((rd x7_1 x17_1) + (rd l1 x17_1)))))) := ⟨by repeat (first | (with_reducible first | exact HB.out | apply below_alloc | apply pw_below_drewN | apply below_drew1 | refine below_set ?_ GB14.out) | exact HB.out)⟩
           (try clear HO_7)
           (try clear HB)
           generalize (w31.setCell ⟨go14, (x17_1 : Int).toNat, none⟩ (.int .i64 (wrap64 ((rd x7_1 x17_1) + (rd l1 x17_1))))) = w33 at n0_ n1_ ⊢
           have HO_7 := n0_
           have HB := n1_
           clear n0_ n1_
           have p28 : 0 ≤ (x17_1 : Int) := A1_
           have q28 : (x17_1 : Int) < ((x7_1.length : Int) : Int) := A1_
           replace p28 := eq_true p28
           replace q28 := eq_true q28
           have p30 : 0 ≤ (x17_1 : Int) := A1_
           have q30 : (x17_1 : Int) < ((x7_1.length : Int) : Int) := A1_
           replace p30 := eq_true p30
           replace q30 := eq_true q30
           obtain ⟨hy34_, hz34_⟩ := Kd.R_celln 0 HO_7.out (x17_1 : Int) (A1_) (A1_)
           (try rw [rd_last Ny278.out (by first | exact (Kd.R_reads' HO_7.out).1 | exact (Kd.R_reads' HO_7.out).1.symm) (A1_) (A1_)] at hy34_)
           have HP34 := Kd.R_putg HO_7.out (x17_1 : Int) (Int.tmod (wrap64 ((rd x7_1 x17_1) + (rd l1 x17_1))) a0)
           try go_wp2_with (first | ((with_reducible refine gate_store (t := 2) (p := 54) rfl ?_); refine store_event (t := 2) (p := 54) (v := ?vo_w35) (w1 := (w33.setCell ⟨go14, (x17_1 : Int).toNat, none⟩ (.int .i64 (Int.tmod (wrap64 ((rd x7_1 x17_1) + (rd l1 x17_1))) a0)))) ?hg ?ho ?hn ?hr ?_; (case ho => rfl); (case hg => rfl); (case hn => rfl); (case hr => first | (go_simp; done) | (go_simp; rfl)); intro w35 hw; have hg : w33.grownBy w35 (some go14) := (by rw [hw]; exact HP34.2); have hp_ : Kd.R (Kd.int .i64) 2 w35 w.heap.size (fun _ => True) (.slice (some ⟨go14, 0, none⟩) x7_1.length co9) y285 := (by rw [hw, Ny285.out]; exact HP34.1); clear HP34; have n0_ := Aside0.mk (hp_); have n1_ := Aside0.mk ((by rw [hw]; exact below_set (HB.out) GB14.out : Below w.heap.size w w35)); clear HO_7; clear HB; have HO_7 := n0_; have HB := n1_; clear n0_ n1_; clear hg hw hp_))
           (try simp only [← hl7_1])
           go_roundg k1
           case measure => have := HK1.out; omega
           case rel => exact ⟨(y285), (wrap64 (x17_1 + 1)), R_, H', ⟨by have := HK1.out; omega⟩, ⟨by (try simp only [hl7_1]); (with_reducible repeat (first | apply Kd.R_alloc | apply Kd.R_drewN | apply Kd.R_drew)); exact HO_7.out⟩, ⟨B_⟩⟩
        ·rw [if_neg c13] at H
         exact absurd H (by simp)
       ·rw [if_neg c12] at H
        exact absurd H (by simp)
      ·rw [if_neg c11] at H
       have c11b0 : decide (x17_1 < (l1.length : Int)) = false := decide_eq_false c11
       (try (have c11b0h := c11b0; simp only [hl7_1] at c11b0h))
       clear c11
       by_cases c36 : x17_1 < (l2.length : Int)
       ·rw [if_pos c36] at H
        have c36b0 : decide (x17_1 < (l2.length : Int)) = true := decide_eq_true c36
        (try (have c36b0h := c36b0; simp only [hl7_1] at c36b0h))
        clear c36
        by_cases c37 : 0 ≤ x17_1
        ·rw [if_pos c37] at H
         have c37b0 : decide (0 ≤ x17_1) = true := decide_eq_true c37
         clear c37
         by_cases c38 : x17_1 < (x7_1.length : Int)
         ·rw [if_pos c38] at H
          have c38b0 : decide (x17_1 < (x7_1.length : Int)) = true := decide_eq_true c38
          (try (have c38b0h := c38b0; simp only [hl7_1] at c38b0h))
          clear c38
          obtain ⟨y288, hy288⟩ : ∃ y_ : List Int, y_ = (x7_1.set (x17_1 : Int).toNat (wrap64 ((rd x7_1 x17_1) + (rd l2 x17_1)))) := ⟨_, rfl⟩
          replace H : (if a0 = 0 then (none) else (impl_addCurves.l0 k1 a0 l1 l2 (y288.set (x17_1 : Int).toNat (Int.tmod (wrap64 ((rd x7_1 x17_1) + (rd l2 x17_1))) a0)) (y273.length : Int) (wrap64 (x17_1 + 1)))) = some r := by first | (rw [hy288]; with_reducible exact H) | (have H2_ := (Option.bind_some _ _).symm.trans H; rw [hy288]; with_reducible exact H2_) | (have H2_ := (Option.bind_some _ _).symm.trans H; with_reducible exact H2_) | with_reducible exact H | (rw [hy288]; exact H) | exact H
          have Ny288 := Aside0.mk hy288
          clear hy288
          by_cases c41 : a0 = 0
          ·rw [if_pos c41] at H
           exact absurd H (by simp)
          ·rw [if_neg c41] at H
           have c41b0 : (a0 == 0) = false := beq_eq_false_iff_ne.mpr c41
           have c41b1 : (a0 != 0) = true := bne_iff_ne.mpr c41
           obtain ⟨y290, hy290⟩ : ∃ y_ : List Int, y_ = (y288.set (x17_1 : Int).toNat (Int.tmod (wrap64 ((rd x7_1 x17_1) + (rd l2 x17_1))) a0)) := ⟨_, rfl⟩
           replace H : (impl_addCurves.l0 k1 a0 l1 l2 y290 (y273.length : Int) (wrap64 (x17_1 + 1))) = some r := by first | (rw [hy290]; with_reducible exact H) | (have H2_ := (Option.bind_some _ _).symm.trans H; rw [hy290]; with_reducible exact H2_) | (have H2_ := (Option.bind_some _ _).symm.trans H; with_reducible exact H2_) | with_reducible exact H | (rw [hy290]; exact H) | exact H
           have Ny290 := Aside0.mk hy290
           clear hy290
           have H' := Aside0.mk H
           clear H
           try go_wp2
           have n0_ := Aside0.mk (Kd.R_drew HO_7.out)
           have n1_ := Aside0.mk (below_drew1 HB.out)
           clear HO_7
           clear HB
           have HO_7 := n0_
           have HB := n1_
           clear n0_ n1_
           have p286 : 0 ≤ (x17_1 : Int) := A1_
           have q286 : x17_1 < (x7_1.length : Int) := A1_
           obtain ⟨ad286, e286, hx286_0⟩ := Kd.at_int (Kd.R_reads' HO_7.out).2.2 x17_1 p286 q286
           cases e286
           replace p286 := eq_true p286
           replace q286 := eq_true q286
           have p287 : 0 ≤ (x17_1 : Int) := A1_
           have q287 : x17_1 < (l2.length : Int) := A1_
           obtain ⟨ad287, e287, hx287_0⟩ := Kd.at_int HR2.out x17_1 p287 q287
           have hw287_0 := hx287_0
           cases e287
           replace hx287_0 := (HB.out.cell (World.block_lt_of_cell? w _ hx287_0)).trans hx287_0
           replace p287 := eq_true p287
           replace q287 := eq_true q287
           have p39 : 0 ≤ (x17_1 : Int) := A1_
           have q39 : (x17_1 : Int) < ((x7_1.length : Int) : Int) := A1_
           obtain ⟨go39, co39, eo39, gb39, gl39, cl39, HG39⟩ := Kd.R_form HO_7.out (by omega)
           (first | cases eo39 | (injection eo39 with ea_ en_ ec_; (first | subst ea_ | (injection ea_ with ea_; subst ea_)); subst ec_; clear en_))
           have GB39 := Aside0.mk gb39
           have GG39 := Aside0.mk HG39
           clear gb39 gl39 HG39
           (first | simp only [add_plain] at hx286_0 | skip)
           obtain ⟨hx39_0, hf39_0⟩ := Kd.R_celln 0 HO_7.out (x17_1 : Int) p39 q39
           replace p39 := eq_true p39
           replace q39 := eq_true q39
           have HP44 := Kd.R_putn HO_7.out (x17_1 : Int) (wrap64 ((rd x7_1 x17_1) + (rd l2 x17_1)))
           rw [← Ny288.out] at HP44
           have HQ44 := Aside0.mk HP44
           clear HP44
           refine start_ (n := 11) (S := fun w' => w'.cell? ⟨go39, (x17_1).toNat, none⟩ = some (.int .i64 (rd x7_1 x17_1)) ∧ w'.cell? (ad287.add (x17_1).toNat) = some (.int .i64 (rd l2 x17_1))) (ds := [10]) #[false, false, false, false, false, false, false, false, false, false, false] (by kernel_rfl) rfl rfl ⟨hx286_0, ((HB.out.cell (World.block_lt_of_cell? w _ hw287_0)).trans hw287_0)⟩ (fun hHeld => ?_); refine with_tabW impl_addCurves.tab8 impl_addCurves.bits8 (fun HT_ HW_ => ?_)
           generalize wr.drew = w43 at HO_7 HB GG39 HQ44 hf39_0 hx286_0 hx287_0 hx39_0 hHeld ⊢
           refine pure_ (i := 0) (N := some 38) (v := ?_) (a' := ?_) #[true, false, false, false, false, false, false, false, false, false, false] rfl rfl (any_of HT_.out (by kernel_rfl)) (fun _ _ _ h => h) (Or.inl ⟨by rfl, ?_⟩) ?_ ?_
           rotate_left
           ·intro w'
            go_simp
            with_reducible rfl
           rotate_left
           ·simp only [Act.put, List.setIfInBounds_toArray, List.set_cons_zero, List.set_cons_succ, i64_w, i32_w]
            rfl
           refine pure_ (i := 1) (N := some 39) (v := ?_) (a' := ?_) #[true, true, false, false, false, false, false, false, false, false, false] rfl rfl (any_of HT_.out (by kernel_rfl)) (fun _ _ _ h => h) (Or.inl ⟨by rfl, ?_⟩) ?_ ?_
           rotate_left
           ·intro w'
            go_simp
            with_reducible rfl
           rotate_left
           ·simp only [Act.put, List.setIfInBounds_toArray, List.set_cons_zero, List.set_cons_succ, i64_w, i32_w]
            rfl
           refine pure_ (i := 2) (N := some 40) (v := ?_) (a' := ?_) #[true, true, true, false, false, false, false, false, false, false, false] rfl rfl (any_of HT_.out (by kernel_rfl)) (fun _ _ _ h => h) (Or.inl ⟨by rfl, ?_⟩) ?_ ?_
           rotate_left
           ·intro w'
            go_simp
            with_reducible rfl
           rotate_left
           ·simp only [Act.put, List.setIfInBounds_toArray, List.set_cons_zero, List.set_cons_succ, i64_w, i32_w]
            rfl
           refine pure_ (i := 4) (N := some 42) (v := ?_) (a' := ?_) #[true, true, true, false, true, false, false, false, false, false, false] rfl rfl (any_of HT_.out (by kernel_rfl)) (fun _ _ _ h => h) (Or.inl ⟨by rfl, ?_⟩) ?_ ?_
           rotate_left
           ·intro w'
            go_simp
            with_reducible rfl
           rotate_left
           ·simp only [Act.put, List.setIfInBounds_toArray, List.set_cons_zero, List.set_cons_succ, i64_w, i32_w]
            rfl
           refine pure_ (i := 5) (N := some 43) (v := ?_) (a' := ?_) #[true, true, true, false, true, true, false, false, false, false, false] rfl rfl (any_of HT_.out (by kernel_rfl)) (fun _ _ _ h => h) (Or.inl ⟨by rfl, ?_⟩) ?_ ?_
           rotate_left
           ·intro w'
            go_simp
            with_reducible rfl
           rotate_left
           ·simp only [Act.put, List.setIfInBounds_toArray, List.set_cons_zero, List.set_cons_succ, i64_w, i32_w]
            rfl
           refine pure_ (i := 6) (N := some 44) (v := ?_) (a' := ?_) #[true, true, true, false, true, true, true, false, false, false, false] rfl rfl (any_of HT_.out (by kernel_rfl)) (fun _ _ _ h => h) (Or.inl ⟨by rfl, ?_⟩) ?_ ?_
           rotate_left
           ·intro w'
            go_simp
            with_reducible rfl
           rotate_left
           ·simp only [Act.put, List.setIfInBounds_toArray, List.set_cons_zero, List.set_cons_succ, i64_w, i32_w]
            rfl
           refine take_ (i := 3) (N := some 41) (v := ?_) (a' := ?_) #[true, true, true, true, true, true, true, false, false, false, false] rfl rfl (take_ofW HT_.out HW_.out (by kernel_rfl)) (fun _ _ _ h => h) (Or.inl ⟨by rfl, ?_⟩) hHeld ?_ ?_
           rotate_left
           ·rintro w' ⟨s0, s1⟩
            go_simp
            with_reducible rfl
           rotate_left
           ·simp only [Act.put, List.setIfInBounds_toArray, List.set_cons_zero, List.set_cons_succ, i64_w, i32_w]
            rfl
           refine take_ (i := 7) (N := some 45) (v := ?_) (a' := ?_) #[true, true, true, true, true, true, true, true, false, false, false] rfl rfl (take_ofW HT_.out HW_.out (by kernel_rfl)) (fun _ _ _ h => h) (Or.inl ⟨by rfl, ?_⟩) hHeld ?_ ?_
           rotate_left
           ·rintro w' ⟨s0, s1⟩
            go_simp
            with_reducible rfl
           rotate_left
           ·simp only [Act.put, List.setIfInBounds_toArray, List.set_cons_zero, List.set_cons_succ, i64_w, i32_w]
            rfl
           refine pure_ (i := 8) (N := some 46) (v := ?_) (a' := ?_) #[true, true, true, true, true, true, true, true, true, false, false] rfl rfl (any_of HT_.out (by kernel_rfl)) (fun _ _ _ h => h) (Or.inl ⟨by rfl, ?_⟩) ?_ ?_
           rotate_left
           ·intro w'
            go_simp
            with_reducible rfl
           rotate_left
           ·simp only [Act.put, List.setIfInBounds_toArray, List.set_cons_zero, List.set_cons_succ, i64_w, i32_w]
            rfl
           refine pure_ (i := 9) (N := some 47) (v := ?_) (a' := ?_) #[true, true, true, true, true, true, true, true, true, true, false] rfl rfl (any_of HT_.out (by kernel_rfl)) (fun _ _ _ h => h) (Or.inl ⟨by rfl, ?_⟩) ?_ ?_
           rotate_left
           ·intro w'
            go_simp
            with_reducible rfl
           rotate_left
           ·simp only [Act.put, List.setIfInBounds_toArray, List.set_cons_zero, List.set_cons_succ, i64_w, i32_w]
            rfl
           refine last_ (i := 10) (N := none) #[true, true, true, true, true, true, true, true, true, true, true] rfl rfl (one_of HT_.out (by kernel_rfl)) (by decide) (fun K hK => ?_)
           refine skip_ (w1 := ?_) (by rfl) rfl ?_ ?_
           rotate_left
           ·go_simp
            rfl
           refine hK.out _ _ ?_
           clear hK K
           refine done_ (done_of HT_.out (by kernel_rfl)) ?_
           have n0_ : Aside0 (Kd.R (Kd.int .i64) 2 (w43.setCell ⟨go39, (x17_1 : Int).toNat, none⟩ (.int .i64 (wrap64 ((rd x7_1 x17_1) + (rd l2 x17_1))))) w.heap.size (fun _ => True) (.slice (some ⟨go39, 0, none⟩) x7_1.length co9) y288) := ⟨by (with_reducible repeat (first | apply Kd.R_alloc | apply Kd.R_drewN | apply Kd.R_drew)); exact HQ44.out⟩
           have n1_ : Aside0 (Below w.heap.size w (w43.setCell ⟨go39, (x17_1 : Int).toNat, none⟩ (.int .i64 (wrap64 ((rd x7_1 x17_1) + (rd l2 x17_1)))))) := ⟨by repeat (first | (with_reducible first | exact HB.out | apply below_alloc | apply pw_below_drewN | apply below_drew1 | refine below_set ?_ GB39.out) | exact HB.out)⟩
           (try clear HO_7)
           (try clear HB)
           generalize (w43.setCell ⟨go39, (x17_1 : Int).toNat, none⟩ (.int .i64 (wrap64 ((rd x7_1 x17_1) + (rd l2 x17_1))))) = w45 at n0_ n1_ ⊢
           have HO_7 := n0_
           have HB := n1_
           clear n0_ n1_
           have p40 : 0 ≤ (x17_1 : Int) := A1_
           have q40 : (x17_1 : Int) < ((x7_1.length : Int) : Int) := A1_
           replace p40 := eq_true p40
           replace q40 := eq_true q40
           have p42 : 0 ≤ (x17_1 : Int) := A1_
           have q42 : (x17_1 : Int) < ((x7_1.length : Int) : Int) := A1_
           replace p42 := eq_true p42
           replace q42 := eq_true q42
           obtain ⟨hy46_, hz46_⟩ := Kd.R_celln 0 HO_7.out (x17_1 : Int) (A1_) (A1_)
           (try rw [rd_last Ny288.out (by first | exact (Kd.R_reads' HO_7.out).1 | exact (Kd.R_reads' HO_7.out).1.symm) (A1_) (A1_)] at hy46_)
           have HP46 := Kd.R_putg HO_7.out (x17_1 : Int) (Int.tmod (wrap64 ((rd x7_1 x17_1) + (rd l2 x17_1))) a0)
           try go_wp2_with (first | ((with_reducible refine gate_store (t := 2) (p := 54) rfl ?_); refine store_event (t := 2) (p := 54) (v := ?vo_w47) (w1 := (w45.setCell ⟨go39, (x17_1 : Int).toNat, none⟩ (.int .i64 (Int.tmod (wrap64 ((rd x7_1 x17_1) + (rd l2 x17_1))) a0)))) ?hg ?ho ?hn ?hr ?_; (case ho => rfl); (case hg => rfl); (case hn => rfl); (case hr => first | (go_simp; done) | (go_simp; rfl)); intro w47 hw; have hg : w45.grownBy w47 (some go39) := (by rw [hw]; exact HP46.2); have hp_ : Kd.R (Kd.int .i64) 2 w47 w.heap.size (fun _ => True) (.slice (some ⟨go39, 0, none⟩) x7_1.length co9) y290 := (by rw [hw, Ny290.out]; exact HP46.1); clear HP46; have n0_ := Aside0.mk (hp_); have n1_ := Aside0.mk ((by rw [hw]; exact below_set (HB.out) GB39.out : Below w.heap.size w w47)); clear HO_7; clear HB; have HO_7 := n0_; have HB := n1_; clear n0_ n1_; clear hg hw hp_))
           (try simp only [← hl7_1])
           go_roundg k1
           case measure => have := HK1.out; omega
           case rel => exact ⟨(y290), (wrap64 (x17_1 + 1)), R_, H', ⟨by have := HK1.out; omega⟩, ⟨by (try simp only [hl7_1]); (with_reducible repeat (first | apply Kd.R_alloc | apply Kd.R_drewN | apply Kd.R_drew)); exact HO_7.out⟩, ⟨B_⟩⟩
         ·rw [if_neg c38] at H
          exact absurd H (by simp)
        ·rw [if_neg c37] at H
         exact absurd H (by simp)
       ·rw [if_neg c36] at H
        have c36b0 : decide (x17_1 < (l2.length : Int)) = false := decide_eq_false c36
        (try (have c36b0h := c36b0; simp only [hl7_1] at c36b0h))
        clear c36
        by_cases c48 : 0 ≤ x17_1
        ·rw [if_pos c48] at H
         have c48b0 : decide (0 ≤ x17_1) = true := decide_eq_true c48
         clear c48
         by_cases c49 : x17_1 < (x7_1.length : Int)
         ·rw [if_pos c49] at H
          have c49b0 : decide (x17_1 < (x7_1.length : Int)) = true := decide_eq_true c49
          (try (have c49b0h := c49b0; simp only [hl7_1] at c49b0h))
          clear c49
          by_cases c50 : a0 = 0
          ·rw [if_pos c50] at H
           exact absurd H (by simp)
          ·rw [if_neg c50] at H
           have c50b0 : (a0 == 0) = false := beq_eq_false_iff_ne.mpr c50
           have c50b1 : (a0 != 0) = true := bne_iff_ne.mpr c50
           obtain ⟨y292, hy292⟩ : ∃ y_ : List Int, y_ = (x7_1.set (x17_1 : Int).toNat (Int.tmod (rd x7_1 x17_1) a0)) := ⟨_, rfl⟩
           replace H : (impl_addCurves.l0 k1 a0 l1 l2 y292 (y273.length : Int) (wrap64 (x17_1 + 1))) = some r := by first | (rw [hy292]; with_reducible exact H) | (have H2_ := (Option.bind_some _ _).symm.trans H; rw [hy292]; with_reducible exact H2_) | (have H2_ := (Option.bind_some _ _).symm.trans H; with_reducible exact H2_) | with_reducible exact H | (rw [hy292]; exact H) | exact H
           have Ny292 := Aside0.mk hy292
           clear hy292
           have H' := Aside0.mk H
           clear H
           have p291 : 0 ≤ (x17_1 : Int) := A1_
           have q291 : x17_1 < (x7_1.length : Int) := A1_
           obtain ⟨ad291, e291, hx291_0⟩ := Kd.at_int (Kd.R_reads' HO_7.out).2.2 x17_1 p291 q291
           cases e291
           replace p291 := eq_true p291
           replace q291 := eq_true q291
           have p51 : 0 ≤ (x17_1 : Int) := A1_
           have q51 : (x17_1 : Int) < ((x7_1.length : Int) : Int) := A1_
           obtain ⟨go51, co51, eo51, gb51, gl51, cl51, HG51⟩ := Kd.R_form HO_7.out (by omega)
           (first | cases eo51 | (injection eo51 with ea_ en_ ec_; (first | subst ea_ | (injection ea_ with ea_; subst ea_)); subst ec_; clear en_))
           have GB51 := Aside0.mk gb51
           have GG51 := Aside0.mk HG51
           clear gb51 gl51 HG51
           (first | simp only [add_plain] at hx291_0 | skip)
           obtain ⟨hx51_0, hf51_0⟩ := Kd.R_celln 0 HO_7.out (x17_1 : Int) p51 q51
           replace p51 := eq_true p51
           replace q51 := eq_true q51
           have HP52 := Kd.R_putg HO_7.out (x17_1 : Int) (Int.tmod (rd x7_1 x17_1) a0)
           go_wp2_with (first | ((with_reducible refine gate_store (t := 2) (p := 54) rfl ?_); refine store_event (t := 2) (p := 54) (v := ?vo_w53) (w1 := (wr.setCell ⟨go51, (x17_1 : Int).toNat, none⟩ (.int .i64 (Int.tmod (rd x7_1 x17_1) a0)))) ?hg ?ho ?hn ?hr ?_; (case ho => rfl); (case hg => rfl); (case hn => rfl); (case hr => first | (go_simp; done) | (go_simp; rfl)); intro w53 hw; have hg : wr.grownBy w53 (some go51) := (by rw [hw]; exact HP52.2); have hp_ : Kd.R (Kd.int .i64) 2 w53 w.heap.size (fun _ => True) (.slice (some ⟨go51, 0, none⟩) x7_1.length co9) y292 := (by rw [hw, Ny292.out]; exact HP52.1); clear HP52; have n0_ := Aside0.mk (hp_); have n1_ := Aside0.mk ((by rw [hw]; exact below_set (HB.out) GB51.out : Below w.heap.size w w53)); clear HO_7; clear HB; have HO_7 := n0_; have HB := n1_; clear n0_ n1_; clear hg hw hp_))
           (try simp only [← hl7_1])
           go_roundg k1
           case measure => have := HK1.out; omega
           case rel => exact ⟨(y292), (wrap64 (x17_1 + 1)), R_, H', ⟨by have := HK1.out; omega⟩, ⟨by (try simp only [hl7_1]); (with_reducible repeat (first | apply Kd.R_alloc | apply Kd.R_drewN | apply Kd.R_drew)); exact HO_7.out⟩, ⟨B_⟩⟩
         ·rw [if_neg c49] at H
          exact absurd H (by simp)
        ·rw [if_neg c48] at H
         exact absurd H (by simp)
     ·rw [if_neg c10] at H
      have c10b0 : decide (x17_1 < (y273.length : Int)) = false := decide_eq_false c10
      (try (have c10b0h := c10b0; simp only [hl7_1] at c10b0h))
      clear c10
      obtain rfl := Option.some.inj H
      go_wp2
      go_ret
      exact ⟨_, by first | rfl | (simp [errW_none, errW_some] <;> rfl) | (simp only [← hji4]; first | rfl | (simp [errW_none, errW_some] <;> rfl)) | (simp [*, errW_none, errW_some] <;> rfl), by (with_reducible repeat (first | apply Kd.R_alloc | apply Kd.R_drewN | apply Kd.R_drew)); exact HO_7.out, B_⟩
  ·rw [if_neg c6] at H
   exact absurd H (by simp)
 ·rw [if_neg c5] at H
  exact absurd H (by simp)

end Go.Proofs.Ytonpikcbmgmchaa.PFnSecrecy
