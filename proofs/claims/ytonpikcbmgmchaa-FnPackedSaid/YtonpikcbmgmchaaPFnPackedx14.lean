-- By xprint.py and given.py (wip/gen): the kit's print of this seat, some functions' contracts given.
import Derived.Test.YtonpikcbmgmchaaPFnPackedx0
import Derived.Test.YtonpikcbmgmchaaPFnPackedx3
import Derived.Test.YtonpikcbmgmchaaPFnPackedx4
import Derived.Test.YtonpikcbmgmchaaPFnPackedx5
import Derived.Test.YtonpikcbmgmchaaPFnPackedx6
import Derived.Test.YtonpikcbmgmchaaPFnPackedx10
import Derived.Test.YtonpikcbmgmchaaPFnPackedx13
namespace Go.Proofs.Ytonpikcbmgmchaa.PFnPacked
open Go.RowKit Go.Proofs.YtonpikcbmgmchaaW.PrintWords Go.Proofs.YtonpikcbmgmchaaW.PrintLast Go.Proofs.YtonpikcbmgmchaaW.PrintMore
attribute [local go_sem] max2_int min2_int max_two min_two max_three min_three max_four min_four   -- for this text's walks alone
set_option linter.unusedVariables false
set_option linter.unusedSimpArgs false

/-! ### laws_FnPacked: function 11 -/
mutual
def laws_FnPacked.j0 : Nat → List Int → List Int → Bool → Option (Bool)
 | 0, _, _, _ => none
 | k + 1, x0, x1, x24 => if x24 = true then (some true) else ((spec_P6Prime.f x0).bind fun t468 => ((spec_P6Pick.f x0 2).bind fun t469 => ((spec_P6Residues.f k x0 t468 (wrap64 (1 + t469))).bind fun t470 => ((spec_P6Pick.f x1 3).bind fun t473 => ((spec_P6Residues.f k x1 t468 t473).bind fun t474 => ((impl_PackSecrets.f k t468 t470 t474).bind fun bt477 => ((spec_PackSecrets.f k t468 t470 t474).bind fun bt481 => (if bt477.2 = bt481.2 then ((laws_f6ints.f k bt477.1 bt481.1).bind fun t485 => (laws_FnPacked.j1 k x1 t468 t470 t474 bt477.2 bt481.1 (!t485))) else (laws_FnPacked.j1 k x1 t468 t470 t474 bt477.2 bt481.1 true)))))))))
def laws_FnPacked.j1 : Nat → List Int → Int → List Int → List Int → Int → List Int → Bool → Option (Bool)
 | 0, _, _, _, _, _, _, _ => none
 | k + 1, x1, x5, x6, x7, x9, x10, x60 => if x60 = true then (some false) else (if x9 = 0 then ((spec_P6Points.f k x1 x5 (wrap64 ((x6.length : Int) + (x7.length : Int)))).bind fun t486 => ((spec_DealShares.f k x5 x10 t486).bind fun bt489 => ((impl_UnpackSecrets.f k x5 bt489.1 (x6.length : Int)).bind fun bt493 => (if bt489.2 = 0 then (if bt493.2 = 0 then ((laws_f6ints.f k bt493.1 x6).bind fun t497 => (if t497 = true then (laws_FnPacked.j2 k x5 x7 x10 (decide ((x10.length : Int) > (wrap64 ((x6.length : Int) + (x7.length : Int)))))) else (laws_FnPacked.j2 k x5 x7 x10 true))) else (laws_FnPacked.j2 k x5 x7 x10 true)) else (laws_FnPacked.j2 k x5 x7 x10 true))))) else (some (x9 == 4)))
def laws_FnPacked.j2 : Nat → Int → List Int → List Int → Bool → Option (Bool)
 | 0, _, _, _, _ => none
 | k + 1, x5, x7, x10, x108 => if x108 = true then (some false) else (laws_FnPacked.l0 k x5 x7 x10 0)
def laws_FnPacked.l0 : Nat → Int → List Int → List Int → Int → Option (Bool)
 | 0, _, _, _, _ => none
 | k + 1, x5, x7, x10, x16 => if x16 < (x7.length : Int) then ((impl_CurveAt.f k x5 x10 (wrap64 (x16 + 1))).bind fun bt498 => (if bt498.2 = 0 then (if 0 ≤ x16 then (if bt498.1 = (rd x7 x16) then (laws_FnPacked.l0 k x5 x7 x10 (wrap64 (x16 + 1))) else (some false)) else (none)) else (some false))) else (some true)
end
def laws_FnPacked.f (k : Nat) (l0 : List Int) (l1 : List Int) : Option (Bool) := (laws_f6big.f l0).bind fun t466 => (if t466 = true then (laws_FnPacked.j0 k l0 l1 true) else ((laws_f6big.f l1).bind fun t467 => (laws_FnPacked.j0 k l0 l1 t467)))
theorem laws_FnPacked.mono_l : ∀ k, (∀ y0 y1 y2, LeO (laws_FnPacked.j0 k y0 y1 y2) (laws_FnPacked.j0 (k + 1) y0 y1 y2)) ∧ (∀ y0 y1 y2 y3 y4 y5 y6, LeO (laws_FnPacked.j1 k y0 y1 y2 y3 y4 y5 y6) (laws_FnPacked.j1 (k + 1) y0 y1 y2 y3 y4 y5 y6)) ∧ (∀ y0 y1 y2 y3, LeO (laws_FnPacked.j2 k y0 y1 y2 y3) (laws_FnPacked.j2 (k + 1) y0 y1 y2 y3)) ∧ (∀ y0 y1 y2 y3, LeO (laws_FnPacked.l0 k y0 y1 y2 y3) (laws_FnPacked.l0 (k + 1) y0 y1 y2 y3))
 | 0 => ⟨fun _ _ _ r h => by simp [laws_FnPacked.j0] at h, fun _ _ _ _ _ _ _ r h => by simp [laws_FnPacked.j1] at h, fun _ _ _ _ r h => by simp [laws_FnPacked.j2] at h, fun _ _ _ _ r h => by simp [laws_FnPacked.l0] at h⟩
 | k + 1 => by
  obtain ⟨ih0, ih1, ih2, ih3⟩ := laws_FnPacked.mono_l k
  refine ⟨?_, ?_, ?_, ?_⟩
  ·intro y0 y1 y2
   unfold laws_FnPacked.j0
   repeat' first
   | (with_reducible exact ih0 _ _ _)
   | (with_reducible exact ih1 _ _ _ _ _ _ _)
   | (with_reducible exact ih2 _ _ _ _)
   | (with_reducible exact ih3 _ _ _ _)
   | (with_reducible exact impl_CurveAt.mono _ _ _ _)
   | (with_reducible exact impl_PackSecrets.mono _ _ _ _)
   | (with_reducible exact impl_UnpackSecrets.mono _ _ _ _)
   | (with_reducible exact laws_f6ints.mono _ _ _)
   | (with_reducible exact spec_DealShares.mono _ _ _ _)
   | (with_reducible exact spec_P6Points.mono _ _ _ _)
   | (with_reducible exact spec_P6Residues.mono _ _ _ _)
   | (with_reducible exact spec_PackSecrets.mono _ _ _ _)
   | (with_reducible exact LeO.refl _)
   | (with_reducible exact LeO.none _)
   | (with_reducible refine LeO.ite ?_ ?_)
   | (with_reducible refine LeO.bind ?_ (fun _ => ?_))
   | exact ih0 _ _ _
   | exact ih1 _ _ _ _ _ _ _
   | exact ih2 _ _ _ _
   | exact ih3 _ _ _ _
   | exact impl_CurveAt.mono _ _ _ _
   | exact impl_PackSecrets.mono _ _ _ _
   | exact impl_UnpackSecrets.mono _ _ _ _
   | exact laws_f6ints.mono _ _ _
   | exact spec_DealShares.mono _ _ _ _
   | exact spec_P6Points.mono _ _ _ _
   | exact spec_P6Residues.mono _ _ _ _
   | exact spec_PackSecrets.mono _ _ _ _
   | exact LeO.none _
   | refine LeO.ite ?_ ?_
   | refine LeO.bind ?_ (fun _ => ?_)
  ·intro y0 y1 y2 y3 y4 y5 y6
   unfold laws_FnPacked.j1
   repeat' first
   | (with_reducible exact ih0 _ _ _)
   | (with_reducible exact ih1 _ _ _ _ _ _ _)
   | (with_reducible exact ih2 _ _ _ _)
   | (with_reducible exact ih3 _ _ _ _)
   | (with_reducible exact impl_CurveAt.mono _ _ _ _)
   | (with_reducible exact impl_PackSecrets.mono _ _ _ _)
   | (with_reducible exact impl_UnpackSecrets.mono _ _ _ _)
   | (with_reducible exact laws_f6ints.mono _ _ _)
   | (with_reducible exact spec_DealShares.mono _ _ _ _)
   | (with_reducible exact spec_P6Points.mono _ _ _ _)
   | (with_reducible exact spec_P6Residues.mono _ _ _ _)
   | (with_reducible exact spec_PackSecrets.mono _ _ _ _)
   | (with_reducible exact LeO.refl _)
   | (with_reducible exact LeO.none _)
   | (with_reducible refine LeO.ite ?_ ?_)
   | (with_reducible refine LeO.bind ?_ (fun _ => ?_))
   | exact ih0 _ _ _
   | exact ih1 _ _ _ _ _ _ _
   | exact ih2 _ _ _ _
   | exact ih3 _ _ _ _
   | exact impl_CurveAt.mono _ _ _ _
   | exact impl_PackSecrets.mono _ _ _ _
   | exact impl_UnpackSecrets.mono _ _ _ _
   | exact laws_f6ints.mono _ _ _
   | exact spec_DealShares.mono _ _ _ _
   | exact spec_P6Points.mono _ _ _ _
   | exact spec_P6Residues.mono _ _ _ _
   | exact spec_PackSecrets.mono _ _ _ _
   | exact LeO.none _
   | refine LeO.ite ?_ ?_
   | refine LeO.bind ?_ (fun _ => ?_)
  ·intro y0 y1 y2 y3
   unfold laws_FnPacked.j2
   repeat' first
   | (with_reducible exact ih0 _ _ _)
   | (with_reducible exact ih1 _ _ _ _ _ _ _)
   | (with_reducible exact ih2 _ _ _ _)
   | (with_reducible exact ih3 _ _ _ _)
   | (with_reducible exact impl_CurveAt.mono _ _ _ _)
   | (with_reducible exact impl_PackSecrets.mono _ _ _ _)
   | (with_reducible exact impl_UnpackSecrets.mono _ _ _ _)
   | (with_reducible exact laws_f6ints.mono _ _ _)
   | (with_reducible exact spec_DealShares.mono _ _ _ _)
   | (with_reducible exact spec_P6Points.mono _ _ _ _)
   | (with_reducible exact spec_P6Residues.mono _ _ _ _)
   | (with_reducible exact spec_PackSecrets.mono _ _ _ _)
   | (with_reducible exact LeO.refl _)
   | (with_reducible exact LeO.none _)
   | (with_reducible refine LeO.ite ?_ ?_)
   | (with_reducible refine LeO.bind ?_ (fun _ => ?_))
   | exact ih0 _ _ _
   | exact ih1 _ _ _ _ _ _ _
   | exact ih2 _ _ _ _
   | exact ih3 _ _ _ _
   | exact impl_CurveAt.mono _ _ _ _
   | exact impl_PackSecrets.mono _ _ _ _
   | exact impl_UnpackSecrets.mono _ _ _ _
   | exact laws_f6ints.mono _ _ _
   | exact spec_DealShares.mono _ _ _ _
   | exact spec_P6Points.mono _ _ _ _
   | exact spec_P6Residues.mono _ _ _ _
   | exact spec_PackSecrets.mono _ _ _ _
   | exact LeO.none _
   | refine LeO.ite ?_ ?_
   | refine LeO.bind ?_ (fun _ => ?_)
  ·intro y0 y1 y2 y3
   unfold laws_FnPacked.l0
   repeat' first
   | (with_reducible exact ih0 _ _ _)
   | (with_reducible exact ih1 _ _ _ _ _ _ _)
   | (with_reducible exact ih2 _ _ _ _)
   | (with_reducible exact ih3 _ _ _ _)
   | (with_reducible exact impl_CurveAt.mono _ _ _ _)
   | (with_reducible exact impl_PackSecrets.mono _ _ _ _)
   | (with_reducible exact impl_UnpackSecrets.mono _ _ _ _)
   | (with_reducible exact laws_f6ints.mono _ _ _)
   | (with_reducible exact spec_DealShares.mono _ _ _ _)
   | (with_reducible exact spec_P6Points.mono _ _ _ _)
   | (with_reducible exact spec_P6Residues.mono _ _ _ _)
   | (with_reducible exact spec_PackSecrets.mono _ _ _ _)
   | (with_reducible exact LeO.refl _)
   | (with_reducible exact LeO.none _)
   | (with_reducible refine LeO.ite ?_ ?_)
   | (with_reducible refine LeO.bind ?_ (fun _ => ?_))
   | exact ih0 _ _ _
   | exact ih1 _ _ _ _ _ _ _
   | exact ih2 _ _ _ _
   | exact ih3 _ _ _ _
   | exact impl_CurveAt.mono _ _ _ _
   | exact impl_PackSecrets.mono _ _ _ _
   | exact impl_UnpackSecrets.mono _ _ _ _
   | exact laws_f6ints.mono _ _ _
   | exact spec_DealShares.mono _ _ _ _
   | exact spec_P6Points.mono _ _ _ _
   | exact spec_P6Residues.mono _ _ _ _
   | exact spec_PackSecrets.mono _ _ _ _
   | exact LeO.none _
   | refine LeO.ite ?_ ?_
   | refine LeO.bind ?_ (fun _ => ?_)
theorem laws_FnPacked.mono : ∀ a0 a1 k, LeO (laws_FnPacked.f k a0 a1) (laws_FnPacked.f (k + 1) a0 a1) := by
 intro a0 a1 k
 obtain ⟨ih0, ih1, ih2, ih3⟩ := laws_FnPacked.mono_l k
 unfold laws_FnPacked.f
 repeat' first
   | (with_reducible exact ih0 _ _ _)
   | (with_reducible exact ih1 _ _ _ _ _ _ _)
   | (with_reducible exact ih2 _ _ _ _)
   | (with_reducible exact ih3 _ _ _ _)
   | (with_reducible exact impl_CurveAt.mono _ _ _ _)
   | (with_reducible exact impl_PackSecrets.mono _ _ _ _)
   | (with_reducible exact impl_UnpackSecrets.mono _ _ _ _)
   | (with_reducible exact laws_f6ints.mono _ _ _)
   | (with_reducible exact spec_DealShares.mono _ _ _ _)
   | (with_reducible exact spec_P6Points.mono _ _ _ _)
   | (with_reducible exact spec_P6Residues.mono _ _ _ _)
   | (with_reducible exact spec_PackSecrets.mono _ _ _ _)
   | (with_reducible exact LeO.refl _)
   | (with_reducible exact LeO.none _)
   | (with_reducible refine LeO.ite ?_ ?_)
   | (with_reducible refine LeO.bind ?_ (fun _ => ?_))
   | exact ih0 _ _ _
   | exact ih1 _ _ _ _ _ _ _
   | exact ih2 _ _ _ _
   | exact ih3 _ _ _ _
   | exact impl_CurveAt.mono _ _ _ _
   | exact impl_PackSecrets.mono _ _ _ _
   | exact impl_UnpackSecrets.mono _ _ _ _
   | exact laws_f6ints.mono _ _ _
   | exact spec_DealShares.mono _ _ _ _
   | exact spec_P6Points.mono _ _ _ _
   | exact spec_P6Residues.mono _ _ _ _
   | exact spec_PackSecrets.mono _ _ _ _
   | exact LeO.none _
   | refine LeO.ite ?_ ?_
   | refine LeO.bind ?_ (fun _ => ?_)
set_option maxHeartbeats 8000000 in
set_option maxRecDepth 100000 in
theorem laws_FnPacked.calls (k : Nat) (A0 : Option Addr) (c0 : Nat) (l0 : List Int) (A1 : Option Addr) (c1 : Nat) (l1 : List Int) (r : Bool) (w : World) (hr0 : Kd.C (Kd.int .u8) w A0 l0.length l0) (hc0 : l0.length ≤ c0) (hr1 : Kd.C (Kd.int .u8) w A1 l1.length l1) (hc1 : l1.length ≤ c1) (h : laws_FnPacked.f k l0 l1 = some r) :
  Calls Try.prog 11 #[.slice A0 l0.length c0, .slice A1 l1.length c1] w fun e w' => e = .returned (.bool r) ∧ Below w.heap.size w w' := by
 have HR0 := Aside0.mk hr0
 have HC0 := Aside0.mk hc0
 clear hr0 hc0
 have HR1 := Aside0.mk hr1
 have HC1 := Aside0.mk hc1
 clear hr1 hc1
 have HB := Aside0.mk (Below.refl w.heap.size w)
 have H : ((laws_f6big.f l0).bind fun t466 => (if t466 = true then (laws_FnPacked.j0 k l0 l1 true) else ((laws_f6big.f l1).bind fun t467 => (laws_FnPacked.j0 k l0 l1 t467)))) = some r := h
 clear h
 have HC3 := Aside0.mk H
 clear H
 go_enter Try.func11, Try.ntmps11
 go_upto_region 1 with (fail)
 go_cut [24] (fun v24 wc => ∃ (kq : Nat) (x24_2 : Bool), v24 = .bool x24_2 ∧ Aside0 (laws_FnPacked.j0 kq l0 l1 x24_2 = some r) ∧ Aside0 (kq ≤ k) ∧ Aside0 (Below w.heap.size w wc))
 case first =>
  have H := HC3.out
  clear HC3
  replace H := Option.bind_eq_some_iff.mp H
  obtain ⟨t466, A40, H⟩ := H
  replace H : (if t466 = true then (laws_FnPacked.j0 k l0 l1 true) else ((laws_f6big.f l1).bind fun t467 => (laws_FnPacked.j0 k l0 l1 t467))) = some r := H
  have A4 := Aside0.mk A40
  clear A40
  by_cases c5 : t466 = true
  ·subst c5
   have H1 : (laws_FnPacked.j0 k l0 l1 true) = some r := by rw [if_pos rfl] at H; exact H
   clear H
   have H := H1
   clear H1
   have H' := Aside0.mk H
   clear H
   go_wp2_with (first | ((with_reducible refine gate_callee (f := 41) rfl ?_); refine goesL_ (some 20) rfl rfl Try.func41 (by kernel_rfl) rfl #[.slice A0 l0.length c0] rfl G_ ?_; (with_reducible refine (laws_f6big.calls _ _ l0 true _ ?side1 ?side2 A4.out).mono ?_); (case side1 => repeat (first | exact (Kd.C_below HR0.out HB.out) | (with_reducible refine Kd.C_alloc ?_ _) | (with_reducible refine Kd.C_drewN ?_ _) | (with_reducible refine Kd.C_drew ?_))); (case side2 => exact HC0.out); rintro e w' ⟨rfl, ⟨nd, rfl⟩⟩; refine ⟨_, rfl, ?_⟩))
   go_meet
   case rel => exact ⟨_, (true), R_, H', ⟨by first | omega | exact Nat.le_refl _⟩, ⟨B_⟩⟩
  ·replace c5 := Bool.eq_false_iff.mpr c5
   subst c5
   have H1 : ((laws_f6big.f l1).bind fun t467 => (laws_FnPacked.j0 k l0 l1 t467)) = some r := by rw [if_neg (show ¬ (false = true) by decide)] at H; exact H
   clear H
   have H := H1
   clear H1
   replace H := Option.bind_eq_some_iff.mp H
   obtain ⟨t467, A60, H⟩ := H
   replace H : (laws_FnPacked.j0 k l0 l1 t467) = some r := H
   have A6 := Aside0.mk A60
   clear A60
   have H' := Aside0.mk H
   clear H
   go_wp2_with (first | ((with_reducible refine gate_callee (f := 41) rfl ?_); refine goesL_ (some 20) rfl rfl Try.func41 (by kernel_rfl) rfl #[.slice A0 l0.length c0] rfl G_ ?_; (with_reducible refine (laws_f6big.calls _ _ l0 false _ ?side1 ?side2 A4.out).mono ?_); (case side1 => repeat (first | exact (Kd.C_below HR0.out HB.out) | (with_reducible refine Kd.C_alloc ?_ _) | (with_reducible refine Kd.C_drewN ?_ _) | (with_reducible refine Kd.C_drew ?_))); (case side2 => exact HC0.out); rintro e w' ⟨rfl, ⟨nd, rfl⟩⟩; refine ⟨_, rfl, ?_⟩) | (go_at_call 41; (with_reducible refine (laws_f6big.calls _ _ l1 t467 _ ?side1 ?side2 A6.out).mono ?_); (case side1 => repeat (first | exact (Kd.C_below HR1.out B_) | (with_reducible refine Kd.C_alloc ?_ _) | (with_reducible refine Kd.C_drewN ?_ _) | (with_reducible refine Kd.C_drew ?_))); (case side2 => exact HC1.out); rintro e w' ⟨rfl, ⟨nd, rfl⟩⟩))
   go_meet
   case rel => exact ⟨_, (t467), R_, H', ⟨by first | omega | exact Nat.le_refl _⟩, ⟨B_⟩⟩
 case rest =>
  clear HC3
  try clear c1
  try clear p2
  try clear c4
  try clear c5
  obtain ⟨kq, x24_2, rfl, HA, HJ2, HB⟩ := hcut
  cases kq with
  | zero => exact absurd HA.out (by simp [laws_FnPacked.j0])
  | succ kj2 =>
   have H := HA.out
   clear HA
   simp only [laws_FnPacked.j0] at H
   by_cases c7 : x24_2 = true
   ·subst c7
    have H1 : (some true) = some r := by rw [if_pos rfl] at H; exact H
    clear H
    have H := H1
    clear H1
    obtain rfl := Option.some.inj H
    go_wp2
    go_ret
    exact ⟨by first | rfl | (simp [errW_none, errW_some] <;> rfl) | (simp [*, errW_none, errW_some] <;> rfl), B_⟩
   ·replace c7 := Bool.eq_false_iff.mpr c7
    subst c7
    have H1 : ((spec_P6Prime.f l0).bind fun t468 => ((spec_P6Pick.f l0 2).bind fun t469 => ((spec_P6Residues.f kj2 l0 t468 (wrap64 (1 + t469))).bind fun t470 => ((spec_P6Pick.f l1 3).bind fun t473 => ((spec_P6Residues.f kj2 l1 t468 t473).bind fun t474 => ((impl_PackSecrets.f kj2 t468 t470 t474).bind fun bt477 => ((spec_PackSecrets.f kj2 t468 t470 t474).bind fun bt481 => (if bt477.2 = bt481.2 then ((laws_f6ints.f kj2 bt477.1 bt481.1).bind fun t485 => (laws_FnPacked.j1 kj2 l1 t468 t470 t474 bt477.2 bt481.1 (!t485))) else (laws_FnPacked.j1 kj2 l1 t468 t470 t474 bt477.2 bt481.1 true))))))))) = some r := by rw [if_neg (show ¬ (false = true) by decide)] at H; exact H
    clear H
    have H := H1
    clear H1
    replace H := Option.bind_eq_some_iff.mp H
    obtain ⟨t468, A80, H⟩ := H
    replace H : ((spec_P6Pick.f l0 2).bind fun t469 => ((spec_P6Residues.f kj2 l0 t468 (wrap64 (1 + t469))).bind fun t470 => ((spec_P6Pick.f l1 3).bind fun t473 => ((spec_P6Residues.f kj2 l1 t468 t473).bind fun t474 => ((impl_PackSecrets.f kj2 t468 t470 t474).bind fun bt477 => ((spec_PackSecrets.f kj2 t468 t470 t474).bind fun bt481 => (if bt477.2 = bt481.2 then ((laws_f6ints.f kj2 bt477.1 bt481.1).bind fun t485 => (laws_FnPacked.j1 kj2 l1 t468 t470 t474 bt477.2 bt481.1 (!t485))) else (laws_FnPacked.j1 kj2 l1 t468 t470 t474 bt477.2 bt481.1 true)))))))) = some r := H
    have A8 := Aside0.mk A80
    clear A80
    replace H := Option.bind_eq_some_iff.mp H
    obtain ⟨t469, A90, H⟩ := H
    replace H : ((spec_P6Residues.f kj2 l0 t468 (wrap64 (1 + t469))).bind fun t470 => ((spec_P6Pick.f l1 3).bind fun t473 => ((spec_P6Residues.f kj2 l1 t468 t473).bind fun t474 => ((impl_PackSecrets.f kj2 t468 t470 t474).bind fun bt477 => ((spec_PackSecrets.f kj2 t468 t470 t474).bind fun bt481 => (if bt477.2 = bt481.2 then ((laws_f6ints.f kj2 bt477.1 bt481.1).bind fun t485 => (laws_FnPacked.j1 kj2 l1 t468 t470 t474 bt477.2 bt481.1 (!t485))) else (laws_FnPacked.j1 kj2 l1 t468 t470 t474 bt477.2 bt481.1 true))))))) = some r := H
    have A9 := Aside0.mk A90
    clear A90
    replace H := Option.bind_eq_some_iff.mp H
    obtain ⟨t470, A100, H⟩ := H
    replace H : ((spec_P6Pick.f l1 3).bind fun t473 => ((spec_P6Residues.f kj2 l1 t468 t473).bind fun t474 => ((impl_PackSecrets.f kj2 t468 t470 t474).bind fun bt477 => ((spec_PackSecrets.f kj2 t468 t470 t474).bind fun bt481 => (if bt477.2 = bt481.2 then ((laws_f6ints.f kj2 bt477.1 bt481.1).bind fun t485 => (laws_FnPacked.j1 kj2 l1 t468 t470 t474 bt477.2 bt481.1 (!t485))) else (laws_FnPacked.j1 kj2 l1 t468 t470 t474 bt477.2 bt481.1 true)))))) = some r := H
    have A10 := Aside0.mk A100
    clear A100
    replace H := Option.bind_eq_some_iff.mp H
    obtain ⟨t473, A110, H⟩ := H
    replace H : ((spec_P6Residues.f kj2 l1 t468 t473).bind fun t474 => ((impl_PackSecrets.f kj2 t468 t470 t474).bind fun bt477 => ((spec_PackSecrets.f kj2 t468 t470 t474).bind fun bt481 => (if bt477.2 = bt481.2 then ((laws_f6ints.f kj2 bt477.1 bt481.1).bind fun t485 => (laws_FnPacked.j1 kj2 l1 t468 t470 t474 bt477.2 bt481.1 (!t485))) else (laws_FnPacked.j1 kj2 l1 t468 t470 t474 bt477.2 bt481.1 true))))) = some r := H
    have A11 := Aside0.mk A110
    clear A110
    replace H := Option.bind_eq_some_iff.mp H
    obtain ⟨t474, A120, H⟩ := H
    replace H : ((impl_PackSecrets.f kj2 t468 t470 t474).bind fun bt477 => ((spec_PackSecrets.f kj2 t468 t470 t474).bind fun bt481 => (if bt477.2 = bt481.2 then ((laws_f6ints.f kj2 bt477.1 bt481.1).bind fun t485 => (laws_FnPacked.j1 kj2 l1 t468 t470 t474 bt477.2 bt481.1 (!t485))) else (laws_FnPacked.j1 kj2 l1 t468 t470 t474 bt477.2 bt481.1 true)))) = some r := H
    have A12 := Aside0.mk A120
    clear A120
    replace H := Option.bind_eq_some_iff.mp H
    obtain ⟨⟨t477, t478⟩, A130, H⟩ := H
    replace H : ((spec_PackSecrets.f kj2 t468 t470 t474).bind fun bt481 => (if t478 = bt481.2 then ((laws_f6ints.f kj2 t477 bt481.1).bind fun t485 => (laws_FnPacked.j1 kj2 l1 t468 t470 t474 t478 bt481.1 (!t485))) else (laws_FnPacked.j1 kj2 l1 t468 t470 t474 t478 bt481.1 true))) = some r := H
    have A13 := Aside0.mk A130
    clear A130
    replace H := Option.bind_eq_some_iff.mp H
    obtain ⟨⟨t481, t482⟩, A140, H⟩ := H
    replace H : (if t478 = t482 then ((laws_f6ints.f kj2 t477 t481).bind fun t485 => (laws_FnPacked.j1 kj2 l1 t468 t470 t474 t478 t481 (!t485))) else (laws_FnPacked.j1 kj2 l1 t468 t470 t474 t478 t481 true)) = some r := H
    have A14 := Aside0.mk A140
    clear A140
    have HC15 := Aside0.mk H
    clear H
    go_upto_region 8 with (first | ((with_reducible refine gate_callee (f := 42) rfl ?_); refine goesL_ (some 26) rfl rfl Try.func42 (by kernel_rfl) rfl #[.slice A0 l0.length c0] rfl G_ ?_; (with_reducible refine (spec_P6Prime.calls _ _ l0 t468 _ ?side1 ?side2 A8.out).mono ?_); (case side1 => repeat (first | exact (Kd.C_below HR0.out HB.out) | (with_reducible refine Kd.C_alloc ?_ _) | (with_reducible refine Kd.C_drewN ?_ _) | (with_reducible refine Kd.C_drew ?_))); (case side2 => exact HC0.out); rintro e w16 ⟨rfl, hb⟩; refine ⟨_, rfl, ?_⟩; have n0_ := Aside0.mk (below_step B_ hb); clear HB; have HB := n0_; clear n0_; (try clear hb); (try clear hb2); (try clear hk); (try clear hi)) | ((with_reducible refine gate_callee (f := 45) rfl ?_); refine goesL_ (some 30) rfl rfl Try.func45 (by kernel_rfl) rfl #[.slice A0 l0.length c0, .int .i64 2] rfl G_ ?_; (with_reducible refine (spec_P6Pick.calls _ _ l0 2 t469 _ ?side1 ?side2 A9.out).mono ?_); (case side1 => repeat (first | exact (Kd.C_below HR0.out HB.out) | (with_reducible refine Kd.C_alloc ?_ _) | (with_reducible refine Kd.C_drewN ?_ _) | (with_reducible refine Kd.C_drew ?_))); (case side2 => exact HC0.out); rintro e w17 ⟨rfl, hb⟩; refine ⟨_, rfl, ?_⟩; have n0_ := Aside0.mk (below_step B_ hb); clear HB; have HB := n0_; clear n0_; (try clear hb); (try clear hb2); (try clear hk); (try clear hi)) | ((with_reducible refine gate_callee (f := 51) rfl ?_); refine goesL_ (some 32) rfl rfl Try.func51 (by kernel_rfl) rfl #[.slice A0 l0.length c0, .int .i64 t468, .int .i64 (wrap64 (1 + t469))] rfl G_ ?_; (with_reducible refine (spec_P6Residues.calls kj2 _ _ l0 t468 (wrap64 (1 + t469)) t470 _ ?side1 ?side2 A10.out).mono ?_); (case side1 => repeat (first | exact (Kd.C_below HR0.out HB.out) | (with_reducible refine Kd.C_alloc ?_ _) | (with_reducible refine Kd.C_drewN ?_ _) | (with_reducible refine Kd.C_drew ?_))); (case side2 => exact HC0.out); rintro e w18 ⟨v471, rfl, ho0, hb⟩; refine ⟨_, rfl, ?_⟩; have n0_ := Aside0.mk (Kd.R_lower ho0 (below_size B_)); have n1_ := Aside0.mk (below_step B_ hb); clear HB; have HO472 := n0_; have HB := n1_; clear n0_ n1_; (try clear hb); (try clear hb2); (try clear hk); (try clear hi); (try clear ho0)) | ((with_reducible refine gate_callee (f := 45) rfl ?_); refine goesL_ (some 36) rfl rfl Try.func45 (by kernel_rfl) rfl #[.slice A1 l1.length c1, .int .i64 3] rfl G_ ?_; (with_reducible refine (spec_P6Pick.calls _ _ l1 3 t473 _ ?side1 ?side2 A11.out).mono ?_); (case side1 => repeat (first | exact (Kd.C_below HR1.out HB.out) | (with_reducible refine Kd.C_alloc ?_ _) | (with_reducible refine Kd.C_drewN ?_ _) | (with_reducible refine Kd.C_drew ?_))); (case side2 => exact HC1.out); rintro e w19 ⟨rfl, hb⟩; refine ⟨_, rfl, ?_⟩; have n0_ := Aside0.mk (Kd.R_below (by (with_reducible repeat (first | apply Kd.R_alloc | apply Kd.R_drewN | apply Kd.R_drew)); exact HO472.out) hb); have n1_ := Aside0.mk (below_step B_ hb); clear HO472; clear HB; have HO472 := n0_; have HB := n1_; clear n0_ n1_; (try clear hb); (try clear hb2); (try clear hk); (try clear hi)) | ((with_reducible refine gate_callee (f := 51) rfl ?_); refine goesL_ (some 37) rfl rfl Try.func51 (by kernel_rfl) rfl #[.slice A1 l1.length c1, .int .i64 t468, .int .i64 t473] rfl G_ ?_; (with_reducible refine (spec_P6Residues.calls kj2 _ _ l1 t468 t473 t474 _ ?side1 ?side2 A12.out).mono ?_); (case side1 => repeat (first | exact (Kd.C_below HR1.out HB.out) | (with_reducible refine Kd.C_alloc ?_ _) | (with_reducible refine Kd.C_drewN ?_ _) | (with_reducible refine Kd.C_drew ?_))); (case side2 => exact HC1.out); rintro e w20 ⟨v475, rfl, ho0, hb⟩; refine ⟨_, rfl, ?_⟩; have n0_ := Aside0.mk (Kd.R_elder' (by (with_reducible repeat (first | apply Kd.R_alloc | apply Kd.R_drewN | apply Kd.R_drew)); exact HO472.out) (Kd.R_base ho0) hb); have n1_ := Aside0.mk (Kd.R_lower (Kd.R_new' ho0 (Kd.R_lt (by (with_reducible repeat (first | apply Kd.R_alloc | apply Kd.R_drewN | apply Kd.R_drew)); exact HO472.out))) (below_size B_)); have n2_ := Aside0.mk (below_step B_ hb); clear HO472; clear HB; have HO472 := n0_; have HO476 := n1_; have HB := n2_; clear n0_ n1_ n2_; (try clear hb); (try clear hb2); (try clear hk); (try clear hi); (try clear ho0); obtain ⟨Ao21, co21, eo21⟩ := Kd.R_slice HO472.out; subst eo21; obtain ⟨Ao22, co22, eo22⟩ := Kd.R_slice HO476.out; subst eo22) | ((with_reducible refine gate_callee (f := 54) rfl ?_); refine goesL_ (some 42) rfl rfl Try.func54 (by kernel_rfl) rfl #[.int .i64 t468, .slice Ao21 t470.length co21, .slice Ao22 t474.length co22] rfl G_ ?_; (with_reducible refine (impl_PackSecrets.calls kj2 t468 _ _ t470 _ _ t474 t477 t478 _ ?side1 ?side2 ?side3 ?side4 A13.out).mono ?_); (case side1 => repeat (first | exact (Kd.R_reads' HO472.out).2.2 | (with_reducible refine Kd.C_alloc ?_ _) | (with_reducible refine Kd.C_drewN ?_ _) | (with_reducible refine Kd.C_drew ?_))); (case side2 => exact (Kd.R_reads' HO472.out).2.1); (case side3 => repeat (first | exact (Kd.R_reads' HO476.out).2.2 | (with_reducible refine Kd.C_alloc ?_ _) | (with_reducible refine Kd.C_drewN ?_ _) | (with_reducible refine Kd.C_drew ?_))); (case side4 => exact (Kd.R_reads' HO476.out).2.1); rintro e w23 ⟨v479, rfl, ho0, hb⟩; refine ⟨_, rfl, ?_⟩; have n0_ := Aside0.mk (Kd.R_elder' (by (with_reducible repeat (first | apply Kd.R_alloc | apply Kd.R_drewN | apply Kd.R_drew)); exact HO472.out) (Kd.R_base ho0) hb); have n1_ := Aside0.mk (Kd.R_elder' (by (with_reducible repeat (first | apply Kd.R_alloc | apply Kd.R_drewN | apply Kd.R_drew)); exact HO476.out) (Kd.R_base ho0) hb); have n2_ := Aside0.mk (Kd.R_lower (Kd.R_new' (Kd.R_new' ho0 (Kd.R_lt (by (with_reducible repeat (first | apply Kd.R_alloc | apply Kd.R_drewN | apply Kd.R_drew)); exact HO472.out))) (Kd.R_lt (by (with_reducible repeat (first | apply Kd.R_alloc | apply Kd.R_drewN | apply Kd.R_drew)); exact HO476.out))) (below_size B_)); have n3_ := Aside0.mk (below_step B_ hb); clear HO472; clear HO476; clear HB; have HO472 := n0_; have HO476 := n1_; have HO480 := n2_; have HB := n3_; clear n0_ n1_ n2_ n3_; (try clear hb); (try clear hb2); (try clear hk); (try clear hi); (try clear ho0)) | ((with_reducible refine gate_callee (f := 55) rfl ?_); refine goesL_ (some 49) rfl rfl Try.func55 (by kernel_rfl) rfl #[.int .i64 t468, .slice Ao21 t470.length co21, .slice Ao22 t474.length co22] rfl G_ ?_; (with_reducible refine (spec_PackSecrets.calls kj2 t468 _ _ t470 _ _ t474 t481 t482 _ ?side1 ?side2 ?side3 ?side4 A14.out).mono ?_); (case side1 => repeat (first | exact (Kd.R_reads' HO472.out).2.2 | (with_reducible refine Kd.C_alloc ?_ _) | (with_reducible refine Kd.C_drewN ?_ _) | (with_reducible refine Kd.C_drew ?_))); (case side2 => exact (Kd.R_reads' HO472.out).2.1); (case side3 => repeat (first | exact (Kd.R_reads' HO476.out).2.2 | (with_reducible refine Kd.C_alloc ?_ _) | (with_reducible refine Kd.C_drewN ?_ _) | (with_reducible refine Kd.C_drew ?_))); (case side4 => exact (Kd.R_reads' HO476.out).2.1); rintro e w24 ⟨v483, rfl, ho0, hb⟩; refine ⟨_, rfl, ?_⟩; have n0_ := Aside0.mk (Kd.R_elder' (by (with_reducible repeat (first | apply Kd.R_alloc | apply Kd.R_drewN | apply Kd.R_drew)); exact HO472.out) (Kd.R_base ho0) hb); have n1_ := Aside0.mk (Kd.R_elder' (by (with_reducible repeat (first | apply Kd.R_alloc | apply Kd.R_drewN | apply Kd.R_drew)); exact HO476.out) (Kd.R_base ho0) hb); have n2_ := Aside0.mk (Kd.R_elder' (by (with_reducible repeat (first | apply Kd.R_alloc | apply Kd.R_drewN | apply Kd.R_drew)); exact HO480.out) (Kd.R_base ho0) hb); have n3_ := Aside0.mk (Kd.R_lower (Kd.R_new' (Kd.R_new' (Kd.R_new' ho0 (Kd.R_lt (by (with_reducible repeat (first | apply Kd.R_alloc | apply Kd.R_drewN | apply Kd.R_drew)); exact HO472.out))) (Kd.R_lt (by (with_reducible repeat (first | apply Kd.R_alloc | apply Kd.R_drewN | apply Kd.R_drew)); exact HO476.out))) (Kd.R_lt (by (with_reducible repeat (first | apply Kd.R_alloc | apply Kd.R_drewN | apply Kd.R_drew)); exact HO480.out))) (below_size B_)); have n4_ := Aside0.mk (below_step B_ hb); clear HO472; clear HO476; clear HO480; clear HB; have HO472 := n0_; have HO476 := n1_; have HO480 := n2_; have HO484 := n3_; have HB := n4_; clear n0_ n1_ n2_ n3_ n4_; (try clear hb); (try clear hb2); (try clear hk); (try clear hi); (try clear ho0)))
    (try simp only [Act.put, List.setIfInBounds_toArray, List.set_cons_zero, List.set_cons_succ])
    go_cut [60] (fun v60 wc => ∃ (kq : Nat) (x60_14 : Bool), v60 = .bool x60_14 ∧ Aside0 (laws_FnPacked.j1 kq l1 t468 t470 t474 t478 t481 x60_14 = some r) ∧ Aside0 (kq ≤ kj2) ∧ Aside0 (Kd.R (Kd.int .i64) 2 wc w.heap.size (fun k_ => some k_ ≠ ((.slice Ao22 t474.length co22) : Value).ownBlock ∧ some k_ ≠ (v483 : Value).ownBlock) (.slice Ao21 t470.length co21) t470) ∧ Aside0 (Kd.R (Kd.int .i64) 2 wc w.heap.size (fun k_ => some k_ ≠ ((.slice Ao21 t470.length co21) : Value).ownBlock ∧ some k_ ≠ (v483 : Value).ownBlock) (.slice Ao22 t474.length co22) t474) ∧ Aside0 (Kd.R (Kd.int .i64) 2 wc w.heap.size (fun k_ => some k_ ≠ ((.slice Ao21 t470.length co21) : Value).ownBlock ∧ some k_ ≠ ((.slice Ao22 t474.length co22) : Value).ownBlock) v483 t481) ∧ Aside0 (Below w.heap.size w wc))
    case first =>
     have H := HC15.out
     clear HC15
     by_cases c25 : t478 = t482
     ·rw [if_pos c25] at H
      have c25b0 : (t478 == t482) = true := beq_iff_eq.mpr c25
      have c25b1 : (t478 != t482) = false := bne_eq_false_iff_eq.mpr c25
      clear c25
      (first | rw [c25b0] | (simp only [i64_w, i32_w]; rw [c25b0]) | skip)
      replace H := Option.bind_eq_some_iff.mp H
      obtain ⟨t485, A260, H⟩ := H
      replace H : (laws_FnPacked.j1 kj2 l1 t468 t470 t474 t478 t481 (!t485)) = some r := H
      have A26 := Aside0.mk A260
      clear A260
      have H' := Aside0.mk H
      clear H
      obtain ⟨Ao27, co27, eo27⟩ := Kd.R_slice HO480.out
      subst eo27
      obtain ⟨Ao28, co28, eo28⟩ := Kd.R_slice HO484.out
      subst eo28
      go_wp2_with (first | (go_at_call 49; (with_reducible refine (laws_f6ints.calls kj2 _ _ t477 _ _ t481 t485 _ ?side1 ?side2 ?side3 ?side4 A26.out).mono ?_); (case side1 => repeat (first | exact (Kd.R_reads' HO480.out).2.2 | (with_reducible refine Kd.C_alloc ?_ _) | (with_reducible refine Kd.C_drewN ?_ _) | (with_reducible refine Kd.C_drew ?_))); (case side2 => exact (Kd.R_reads' HO480.out).2.1); (case side3 => repeat (first | exact (Kd.R_reads' HO484.out).2.2 | (with_reducible refine Kd.C_alloc ?_ _) | (with_reducible refine Kd.C_drewN ?_ _) | (with_reducible refine Kd.C_drew ?_))); (case side4 => exact (Kd.R_reads' HO484.out).2.1); rintro e w' ⟨rfl, ⟨nd, rfl⟩⟩))
      go_meet
      case rel => exact ⟨_, (!t485), R_, H', ⟨by have := HJ2.out; first | omega | exact Nat.le_refl _⟩, ⟨by (with_reducible repeat (first | apply Kd.R_alloc | apply Kd.R_drewN | apply Kd.R_drew)); exact Kd.R_mono HO472.out (fun _ hk => ⟨hk.1.1.2, hk.2⟩)⟩, ⟨by (with_reducible repeat (first | apply Kd.R_alloc | apply Kd.R_drewN | apply Kd.R_drew)); exact Kd.R_mono HO476.out (fun _ hk => ⟨hk.1.1.2, hk.2⟩)⟩, ⟨by (with_reducible repeat (first | apply Kd.R_alloc | apply Kd.R_drewN | apply Kd.R_drew)); exact Kd.R_mono HO484.out (fun _ hk => ⟨hk.1.1.2, hk.1.2⟩)⟩, ⟨B_⟩⟩
     ·rw [if_neg c25] at H
      have c25b0 : (t478 == t482) = false := beq_eq_false_iff_ne.mpr c25
      have c25b1 : (t478 != t482) = true := bne_iff_ne.mpr c25
      (first | rw [c25b0] | (simp only [i64_w, i32_w]; rw [c25b0]) | skip)
      have H' := Aside0.mk H
      clear H
      go_wp2
      go_meet
      case rel => exact ⟨_, (true), R_, H', ⟨by have := HJ2.out; first | omega | exact Nat.le_refl _⟩, ⟨by (with_reducible repeat (first | apply Kd.R_alloc | apply Kd.R_drewN | apply Kd.R_drew)); exact Kd.R_mono HO472.out (fun _ hk => ⟨hk.1.1.2, hk.2⟩)⟩, ⟨by (with_reducible repeat (first | apply Kd.R_alloc | apply Kd.R_drewN | apply Kd.R_drew)); exact Kd.R_mono HO476.out (fun _ hk => ⟨hk.1.1.2, hk.2⟩)⟩, ⟨by (with_reducible repeat (first | apply Kd.R_alloc | apply Kd.R_drewN | apply Kd.R_drew)); exact Kd.R_mono HO484.out (fun _ hk => ⟨hk.1.1.2, hk.1.2⟩)⟩, ⟨B_⟩⟩
    case rest =>
     clear HC15
     try clear c1
     try clear c2
     try clear p2
     try clear c4
     try clear c5
     try clear p6
     try clear c7
     try clear c11
     try clear c25
     try clear c25b0
     try clear c25b1
     try clear p2
     obtain ⟨kq, x60_14, rfl, HA, HJ14, HO_6, HO_7, HO_10, HB⟩ := hcut
     cases kq with
     | zero => exact absurd HA.out (by simp [laws_FnPacked.j1])
     | succ kj14 =>
      have H := HA.out
      clear HA
      simp only [laws_FnPacked.j1] at H
      by_cases c29 : x60_14 = true
      ·subst c29
       have H1 : (some false) = some r := by rw [if_pos rfl] at H; exact H
       clear H
       have H := H1
       clear H1
       obtain rfl := Option.some.inj H
       go_wp2
       go_ret
       exact ⟨by first | rfl | (simp [errW_none, errW_some] <;> rfl) | (simp [*, errW_none, errW_some] <;> rfl), B_⟩
      ·replace c29 := Bool.eq_false_iff.mpr c29
       subst c29
       have H1 : (if t478 = 0 then ((spec_P6Points.f kj14 l1 t468 (wrap64 ((t470.length : Int) + (t474.length : Int)))).bind fun t486 => ((spec_DealShares.f kj14 t468 t481 t486).bind fun bt489 => ((impl_UnpackSecrets.f kj14 t468 bt489.1 (t470.length : Int)).bind fun bt493 => (if bt489.2 = 0 then (if bt493.2 = 0 then ((laws_f6ints.f kj14 bt493.1 t470).bind fun t497 => (if t497 = true then (laws_FnPacked.j2 kj14 t468 t474 t481 (decide ((t481.length : Int) > (wrap64 ((t470.length : Int) + (t474.length : Int)))))) else (laws_FnPacked.j2 kj14 t468 t474 t481 true))) else (laws_FnPacked.j2 kj14 t468 t474 t481 true)) else (laws_FnPacked.j2 kj14 t468 t474 t481 true))))) else (some (t478 == 4))) = some r := by rw [if_neg (show ¬ (false = true) by decide)] at H; exact H
       clear H
       have H := H1
       clear H1
       by_cases c30 : t478 = 0
       ·rw [if_pos c30] at H
        have c30b0 : (t478 == 0) = true := beq_iff_eq.mpr c30
        have c30b1 : (t478 != 0) = false := bne_eq_false_iff_eq.mpr c30
        clear c30
        replace H := Option.bind_eq_some_iff.mp H
        obtain ⟨t486, A310, H⟩ := H
        replace H : ((spec_DealShares.f kj14 t468 t481 t486).bind fun bt489 => ((impl_UnpackSecrets.f kj14 t468 bt489.1 (t470.length : Int)).bind fun bt493 => (if bt489.2 = 0 then (if bt493.2 = 0 then ((laws_f6ints.f kj14 bt493.1 t470).bind fun t497 => (if t497 = true then (laws_FnPacked.j2 kj14 t468 t474 t481 (decide ((t481.length : Int) > (wrap64 ((t470.length : Int) + (t474.length : Int)))))) else (laws_FnPacked.j2 kj14 t468 t474 t481 true))) else (laws_FnPacked.j2 kj14 t468 t474 t481 true)) else (laws_FnPacked.j2 kj14 t468 t474 t481 true)))) = some r := H
        have A31 := Aside0.mk A310
        clear A310
        replace H := Option.bind_eq_some_iff.mp H
        obtain ⟨⟨t489, t490⟩, A320, H⟩ := H
        replace H : ((impl_UnpackSecrets.f kj14 t468 t489 (t470.length : Int)).bind fun bt493 => (if t490 = 0 then (if bt493.2 = 0 then ((laws_f6ints.f kj14 bt493.1 t470).bind fun t497 => (if t497 = true then (laws_FnPacked.j2 kj14 t468 t474 t481 (decide ((t481.length : Int) > (wrap64 ((t470.length : Int) + (t474.length : Int)))))) else (laws_FnPacked.j2 kj14 t468 t474 t481 true))) else (laws_FnPacked.j2 kj14 t468 t474 t481 true)) else (laws_FnPacked.j2 kj14 t468 t474 t481 true))) = some r := H
        have A32 := Aside0.mk A320
        clear A320
        replace H := Option.bind_eq_some_iff.mp H
        obtain ⟨⟨t493, t494⟩, A330, H⟩ := H
        replace H : (if t490 = 0 then (if t494 = 0 then ((laws_f6ints.f kj14 t493 t470).bind fun t497 => (if t497 = true then (laws_FnPacked.j2 kj14 t468 t474 t481 (decide ((t481.length : Int) > (wrap64 ((t470.length : Int) + (t474.length : Int)))))) else (laws_FnPacked.j2 kj14 t468 t474 t481 true))) else (laws_FnPacked.j2 kj14 t468 t474 t481 true)) else (laws_FnPacked.j2 kj14 t468 t474 t481 true)) = some r := H
        have A33 := Aside0.mk A330
        clear A330
        have HC34 := Aside0.mk H
        clear H
        go_upto_region 14 with (first | ((with_reducible refine gate_callee (f := 44) rfl ?_); refine goesL_ (some 75) rfl rfl Try.func44 (by kernel_rfl) rfl #[.slice A1 l1.length c1, .int .i64 t468, .int .i64 (wrap64 ((t470.length : Int) + (t474.length : Int)))] rfl G_ ?_; (with_reducible refine (spec_P6Points.calls kj14 _ _ l1 t468 (wrap64 ((t470.length : Int) + (t474.length : Int))) t486 _ ?side1 ?side2 A31.out).mono ?_); (case side1 => repeat (first | exact (Kd.C_below HR1.out HB.out) | (with_reducible refine Kd.C_alloc ?_ _) | (with_reducible refine Kd.C_drewN ?_ _) | (with_reducible refine Kd.C_drew ?_))); (case side2 => exact HC1.out); rintro e w35 ⟨v487, rfl, ho0, hb⟩; refine ⟨_, rfl, ?_⟩; have n0_ := Aside0.mk (Kd.R_elder' (by (with_reducible repeat (first | apply Kd.R_alloc | apply Kd.R_drewN | apply Kd.R_drew)); exact HO_6.out) (Kd.R_base ho0) hb); have n1_ := Aside0.mk (Kd.R_elder' (by (with_reducible repeat (first | apply Kd.R_alloc | apply Kd.R_drewN | apply Kd.R_drew)); exact HO_7.out) (Kd.R_base ho0) hb); have n2_ := Aside0.mk (Kd.R_elder' (by (with_reducible repeat (first | apply Kd.R_alloc | apply Kd.R_drewN | apply Kd.R_drew)); exact HO_10.out) (Kd.R_base ho0) hb); have n3_ := Aside0.mk (Kd.R_lower (Kd.R_new' (Kd.R_new' (Kd.R_new' ho0 (Kd.R_lt (by (with_reducible repeat (first | apply Kd.R_alloc | apply Kd.R_drewN | apply Kd.R_drew)); exact HO_6.out))) (Kd.R_lt (by (with_reducible repeat (first | apply Kd.R_alloc | apply Kd.R_drewN | apply Kd.R_drew)); exact HO_7.out))) (Kd.R_lt (by (with_reducible repeat (first | apply Kd.R_alloc | apply Kd.R_drewN | apply Kd.R_drew)); exact HO_10.out))) (below_size B_)); have n4_ := Aside0.mk (below_step B_ hb); clear HO_6; clear HO_7; clear HO_10; clear HB; have HO_6 := n0_; have HO_7 := n1_; have HO_10 := n2_; have HO488 := n3_; have HB := n4_; clear n0_ n1_ n2_ n3_ n4_; (try clear hb); (try clear hb2); (try clear hk); (try clear hi); (try clear ho0); obtain ⟨Ao36, co36, eo36⟩ := Kd.R_slice HO_10.out; subst eo36; obtain ⟨Ao37, co37, eo37⟩ := Kd.R_slice HO488.out; subst eo37) | ((with_reducible refine gate_callee (f := 50) rfl ?_); refine goesL_ (some 76) rfl rfl Try.func50 (by kernel_rfl) rfl #[.int .i64 t468, .slice Ao36 t481.length co36, .slice Ao37 t486.length co37] rfl G_ ?_; (with_reducible refine (spec_DealShares.calls kj14 t468 _ _ t481 _ _ t486 t489 t490 _ ?side1 ?side2 ?side3 ?side4 A32.out).mono ?_); (case side1 => repeat (first | exact (Kd.R_reads' HO_10.out).2.2 | (with_reducible refine Kd.C_alloc ?_ _) | (with_reducible refine Kd.C_drewN ?_ _) | (with_reducible refine Kd.C_drew ?_))); (case side2 => exact (Kd.R_reads' HO_10.out).2.1); (case side3 => repeat (first | exact (Kd.R_reads' HO488.out).2.2 | (with_reducible refine Kd.C_alloc ?_ _) | (with_reducible refine Kd.C_drewN ?_ _) | (with_reducible refine Kd.C_drew ?_))); (case side4 => exact (Kd.R_reads' HO488.out).2.1); rintro e w38 ⟨v491, rfl, ho0, hb⟩; refine ⟨_, rfl, ?_⟩; have n0_ := Aside0.mk (Kd.R_below (by (with_reducible repeat (first | apply Kd.R_alloc | apply Kd.R_drewN | apply Kd.R_drew)); exact HO_6.out) hb); have n1_ := Aside0.mk (Kd.R_below (by (with_reducible repeat (first | apply Kd.R_alloc | apply Kd.R_drewN | apply Kd.R_drew)); exact HO_7.out) hb); have n2_ := Aside0.mk (Kd.R_below (by (with_reducible repeat (first | apply Kd.R_alloc | apply Kd.R_drewN | apply Kd.R_drew)); exact HO_10.out) hb); have n3_ := Aside0.mk (Kd.R_below (by (with_reducible repeat (first | apply Kd.R_alloc | apply Kd.R_drewN | apply Kd.R_drew)); exact HO488.out) hb); have n4_ := Aside0.mk (Kd.R_lower ho0 (below_size B_)); have n5_ := Aside0.mk (below_step B_ hb); clear HO_6; clear HO_7; clear HO_10; clear HO488; clear HB; have HO_6 := n0_; have HO_7 := n1_; have HO_10 := n2_; have HO488 := n3_; have HO492 := n4_; have HB := n5_; clear n0_ n1_ n2_ n3_ n4_ n5_; (try clear hb); (try clear hb2); (try clear hk); (try clear hi); (try clear ho0); obtain ⟨Ao39, co39, eo39⟩ := Kd.R_slice HO492.out; subst eo39) | ((with_reducible refine gate_callee (f := 18) rfl ?_); refine goesL_ (some 84) rfl rfl Try.func18 (by kernel_rfl) rfl #[.int .i64 t468, .slice Ao39 t489.length co39, .int .i64 (t470.length : Int)] rfl G_ ?_; (with_reducible refine (impl_UnpackSecrets.calls kj14 t468 _ _ t489 (t470.length : Int) t493 t494 _ ?side1 ?side2 A33.out).mono ?_); (case side1 => repeat (first | exact (Kd.R_reads' HO492.out).2.2 | (with_reducible refine Kd.C_alloc ?_ _) | (with_reducible refine Kd.C_drewN ?_ _) | (with_reducible refine Kd.C_drew ?_))); (case side2 => exact (Kd.R_reads' HO492.out).2.1); rintro e w40 ⟨v495, rfl, ho0, hb⟩; refine ⟨_, rfl, ?_⟩; have n0_ := Aside0.mk (Kd.R_elder' (by (with_reducible repeat (first | apply Kd.R_alloc | apply Kd.R_drewN | apply Kd.R_drew)); exact HO_6.out) (Kd.R_base ho0) hb); have n1_ := Aside0.mk (Kd.R_elder' (by (with_reducible repeat (first | apply Kd.R_alloc | apply Kd.R_drewN | apply Kd.R_drew)); exact HO_7.out) (Kd.R_base ho0) hb); have n2_ := Aside0.mk (Kd.R_elder' (by (with_reducible repeat (first | apply Kd.R_alloc | apply Kd.R_drewN | apply Kd.R_drew)); exact HO_10.out) (Kd.R_base ho0) hb); have n3_ := Aside0.mk (Kd.R_elder' (by (with_reducible repeat (first | apply Kd.R_alloc | apply Kd.R_drewN | apply Kd.R_drew)); exact HO488.out) (Kd.R_base ho0) hb); have n4_ := Aside0.mk (Kd.R_below (by (with_reducible repeat (first | apply Kd.R_alloc | apply Kd.R_drewN | apply Kd.R_drew)); exact HO492.out) hb); have n5_ := Aside0.mk (Kd.R_lower (Kd.R_new' (Kd.R_new' (Kd.R_new' (Kd.R_new' ho0 (Kd.R_lt (by (with_reducible repeat (first | apply Kd.R_alloc | apply Kd.R_drewN | apply Kd.R_drew)); exact HO_6.out))) (Kd.R_lt (by (with_reducible repeat (first | apply Kd.R_alloc | apply Kd.R_drewN | apply Kd.R_drew)); exact HO_7.out))) (Kd.R_lt (by (with_reducible repeat (first | apply Kd.R_alloc | apply Kd.R_drewN | apply Kd.R_drew)); exact HO_10.out))) (Kd.R_lt (by (with_reducible repeat (first | apply Kd.R_alloc | apply Kd.R_drewN | apply Kd.R_drew)); exact HO488.out))) (below_size B_)); have n6_ := Aside0.mk (below_step B_ hb); clear HO_6; clear HO_7; clear HO_10; clear HO488; clear HO492; clear HB; have HO_6 := n0_; have HO_7 := n1_; have HO_10 := n2_; have HO488 := n3_; have HO492 := n4_; have HO496 := n5_; have HB := n6_; clear n0_ n1_ n2_ n3_ n4_ n5_ n6_; (try clear hb); (try clear hb2); (try clear hk); (try clear hi); (try clear ho0)))
        (try simp only [Act.put, List.setIfInBounds_toArray, List.set_cons_zero, List.set_cons_succ])
        go_cut [108] (fun v108 wc => ∃ (kq : Nat) (x108_33 : Bool), v108 = .bool x108_33 ∧ Aside0 (laws_FnPacked.j2 kq t468 t474 t481 x108_33 = some r) ∧ Aside0 (kq ≤ kj14) ∧ Aside0 (Kd.R (Kd.int .i64) 2 wc w.heap.size (fun k_ => some k_ ≠ ((.slice Ao36 t481.length co36) : Value).ownBlock) (.slice Ao22 t474.length co22) t474) ∧ Aside0 (Kd.R (Kd.int .i64) 2 wc w.heap.size (fun k_ => some k_ ≠ ((.slice Ao22 t474.length co22) : Value).ownBlock) (.slice Ao36 t481.length co36) t481) ∧ Aside0 (Below w.heap.size w wc))
        case first =>
         have H := HC34.out
         clear HC34
         by_cases c41 : t490 = 0
         ·rw [if_pos c41] at H
          have c41b0 : (t490 == 0) = true := beq_iff_eq.mpr c41
          have c41b1 : (t490 != 0) = false := bne_eq_false_iff_eq.mpr c41
          clear c41
          (first | rw [c41b0] | (simp only [i64_w, i32_w]; rw [c41b0]) | skip)
          by_cases c42 : t494 = 0
          ·rw [if_pos c42] at H
           have c42b0 : (t494 == 0) = true := beq_iff_eq.mpr c42
           have c42b1 : (t494 != 0) = false := bne_eq_false_iff_eq.mpr c42
           clear c42
           replace H := Option.bind_eq_some_iff.mp H
           obtain ⟨t497, A430, H⟩ := H
           replace H : (if t497 = true then (laws_FnPacked.j2 kj14 t468 t474 t481 (decide ((t481.length : Int) > (wrap64 ((t470.length : Int) + (t474.length : Int)))))) else (laws_FnPacked.j2 kj14 t468 t474 t481 true)) = some r := H
           have A43 := Aside0.mk A430
           clear A430
           by_cases c44 : t497 = true
           ·subst c44
            have H1 : (laws_FnPacked.j2 kj14 t468 t474 t481 (decide ((t481.length : Int) > (wrap64 ((t470.length : Int) + (t474.length : Int)))))) = some r := by rw [if_pos rfl] at H; exact H
            clear H
            have H := H1
            clear H1
            have H' := Aside0.mk H
            clear H
            obtain ⟨Ao45, co45, eo45⟩ := Kd.R_slice HO496.out
            subst eo45
            go_wp2_with (first | (go_at_call 49; (with_reducible refine (laws_f6ints.calls kj14 _ _ t493 _ _ t470 true _ ?side1 ?side2 ?side3 ?side4 A43.out).mono ?_); (case side1 => repeat (first | exact (Kd.R_reads' HO496.out).2.2 | (with_reducible refine Kd.C_alloc ?_ _) | (with_reducible refine Kd.C_drewN ?_ _) | (with_reducible refine Kd.C_drew ?_))); (case side2 => exact (Kd.R_reads' HO496.out).2.1); (case side3 => repeat (first | exact (Kd.R_reads' HO_6.out).2.2 | (with_reducible refine Kd.C_alloc ?_ _) | (with_reducible refine Kd.C_drewN ?_ _) | (with_reducible refine Kd.C_drew ?_))); (case side4 => exact (Kd.R_reads' HO_6.out).2.1); rintro e w' ⟨rfl, ⟨nd, rfl⟩⟩))
            go_meet
            case rel => exact ⟨_, (decide ((t481.length : Int) > (wrap64 ((t470.length : Int) + (t474.length : Int))))), R_, H', ⟨by have := HJ2.out; have := HJ14.out; first | omega | exact Nat.le_refl _⟩, ⟨by (with_reducible repeat (first | apply Kd.R_alloc | apply Kd.R_drewN | apply Kd.R_drew)); exact Kd.R_mono HO_7.out (fun _ hk => hk.1.1.2)⟩, ⟨by (with_reducible repeat (first | apply Kd.R_alloc | apply Kd.R_drewN | apply Kd.R_drew)); exact Kd.R_mono HO_10.out (fun _ hk => hk.1.1.2)⟩, ⟨B_⟩⟩
           ·replace c44 := Bool.eq_false_iff.mpr c44
            subst c44
            have H1 : (laws_FnPacked.j2 kj14 t468 t474 t481 true) = some r := by rw [if_neg (show ¬ (false = true) by decide)] at H; exact H
            clear H
            have H := H1
            clear H1
            have H' := Aside0.mk H
            clear H
            obtain ⟨Ao46, co46, eo46⟩ := Kd.R_slice HO496.out
            subst eo46
            go_wp2_with (first | (go_at_call 49; (with_reducible refine (laws_f6ints.calls kj14 _ _ t493 _ _ t470 false _ ?side1 ?side2 ?side3 ?side4 A43.out).mono ?_); (case side1 => repeat (first | exact (Kd.R_reads' HO496.out).2.2 | (with_reducible refine Kd.C_alloc ?_ _) | (with_reducible refine Kd.C_drewN ?_ _) | (with_reducible refine Kd.C_drew ?_))); (case side2 => exact (Kd.R_reads' HO496.out).2.1); (case side3 => repeat (first | exact (Kd.R_reads' HO_6.out).2.2 | (with_reducible refine Kd.C_alloc ?_ _) | (with_reducible refine Kd.C_drewN ?_ _) | (with_reducible refine Kd.C_drew ?_))); (case side4 => exact (Kd.R_reads' HO_6.out).2.1); rintro e w' ⟨rfl, ⟨nd, rfl⟩⟩))
            go_meet
            case rel => exact ⟨_, (true), R_, H', ⟨by have := HJ2.out; have := HJ14.out; first | omega | exact Nat.le_refl _⟩, ⟨by (with_reducible repeat (first | apply Kd.R_alloc | apply Kd.R_drewN | apply Kd.R_drew)); exact Kd.R_mono HO_7.out (fun _ hk => hk.1.1.2)⟩, ⟨by (with_reducible repeat (first | apply Kd.R_alloc | apply Kd.R_drewN | apply Kd.R_drew)); exact Kd.R_mono HO_10.out (fun _ hk => hk.1.1.2)⟩, ⟨B_⟩⟩
          ·rw [if_neg c42] at H
           have c42b0 : (t494 == 0) = false := beq_eq_false_iff_ne.mpr c42
           have c42b1 : (t494 != 0) = true := bne_iff_ne.mpr c42
           have H' := Aside0.mk H
           clear H
           go_wp2
           go_meet
           case rel => exact ⟨_, (true), R_, H', ⟨by have := HJ2.out; have := HJ14.out; first | omega | exact Nat.le_refl _⟩, ⟨by (with_reducible repeat (first | apply Kd.R_alloc | apply Kd.R_drewN | apply Kd.R_drew)); exact Kd.R_mono HO_7.out (fun _ hk => hk.1.1.2)⟩, ⟨by (with_reducible repeat (first | apply Kd.R_alloc | apply Kd.R_drewN | apply Kd.R_drew)); exact Kd.R_mono HO_10.out (fun _ hk => hk.1.1.2)⟩, ⟨B_⟩⟩
         ·rw [if_neg c41] at H
          have c41b0 : (t490 == 0) = false := beq_eq_false_iff_ne.mpr c41
          have c41b1 : (t490 != 0) = true := bne_iff_ne.mpr c41
          (first | rw [c41b0] | (simp only [i64_w, i32_w]; rw [c41b0]) | skip)
          have H' := Aside0.mk H
          clear H
          go_wp2
          go_meet
          case rel => exact ⟨_, (true), R_, H', ⟨by have := HJ2.out; have := HJ14.out; first | omega | exact Nat.le_refl _⟩, ⟨by (with_reducible repeat (first | apply Kd.R_alloc | apply Kd.R_drewN | apply Kd.R_drew)); exact Kd.R_mono HO_7.out (fun _ hk => hk.1.1.2)⟩, ⟨by (with_reducible repeat (first | apply Kd.R_alloc | apply Kd.R_drewN | apply Kd.R_drew)); exact Kd.R_mono HO_10.out (fun _ hk => hk.1.1.2)⟩, ⟨B_⟩⟩
        case rest =>
         clear HC34
         try clear c1
         try clear c2
         try clear p2
         try clear c3
         try clear c4
         try clear c5
         try clear p6
         try clear c7
         try clear c11
         try clear c18
         try clear c25
         try clear c25b0
         try clear c25b1
         try clear c29
         try clear c30
         try clear c30b0
         try clear c30b1
         try clear c41
         try clear c41b0
         try clear c41b1
         try clear c42
         try clear c42b0
         try clear c42b1
         try clear c44
         try clear c45
         try clear p2
         try clear p6
         obtain ⟨kq, x108_33, rfl, HA, HJ33, HO_7, HO_10, HB⟩ := hcut
         cases kq with
         | zero => exact absurd HA.out (by simp [laws_FnPacked.j2])
         | succ kj33 =>
          have H := HA.out
          clear HA
          simp only [laws_FnPacked.j2] at H
          by_cases c47 : x108_33 = true
          ·subst c47
           have H1 : (some false) = some r := by rw [if_pos rfl] at H; exact H
           clear H
           have H := H1
           clear H1
           obtain rfl := Option.some.inj H
           go_wp2
           go_ret
           exact ⟨by first | rfl | (simp [errW_none, errW_some] <;> rfl) | (simp [*, errW_none, errW_some] <;> rfl), B_⟩
          ·replace c47 := Bool.eq_false_iff.mpr c47
           subst c47
           have H1 : (laws_FnPacked.l0 kj33 t468 t474 t481 0) = some r := by rw [if_neg (show ¬ (false = true) by decide)] at H; exact H
           clear H
           have H := H1
           clear H1
           have H' := Aside0.mk H
           clear H
           go_wp2
           go_loopg [16] kj33 (fun kq v16 w' => ∃ (x16_4 : Int), v16 = .int .i64 x16_4 ∧ Aside0 (laws_FnPacked.l0 kq t468 t474 t481 x16_4 = some r) ∧ Aside0 (kq ≤ kj33) ∧ Aside0 (Kd.R (Kd.int .i64) 2 w' w.heap.size (fun k_ => some k_ ≠ ((.slice Ao36 t481.length co36) : Value).ownBlock) (.slice Ao22 t474.length co22) t474) ∧ Aside0 (Kd.R (Kd.int .i64) 2 w' w.heap.size (fun k_ => some k_ ≠ ((.slice Ao22 t474.length co22) : Value).ownBlock) (.slice Ao36 t481.length co36) t481) ∧ Aside0 (Below w.heap.size w w'))
           case atStart => exact ⟨(0), R_, H', ⟨Nat.le_refl _⟩, ⟨by (with_reducible repeat (first | apply Kd.R_alloc | apply Kd.R_drewN | apply Kd.R_drew)); exact HO_7.out⟩, ⟨by (with_reducible repeat (first | apply Kd.R_alloc | apply Kd.R_drewN | apply Kd.R_drew)); exact HO_10.out⟩, ⟨B_⟩⟩
           case round =>
            clear H'
            try clear c1
            try clear c2
            try clear p2
            try clear c3
            try clear c4
            try clear c5
            try clear p6
            try clear c7
            try clear c11
            try clear c18
            try clear c25
            try clear c25b0
            try clear c25b1
            try clear c29
            try clear c30
            try clear c30b0
            try clear c30b1
            try clear c41
            try clear c41b0
            try clear c41b1
            try clear c42
            try clear c42b0
            try clear c42b1
            try clear c44
            try clear c45
            try clear c47
            try clear p2
            try clear p6
            obtain ⟨x16_4, rfl, HA, HK4, HO_7, HO_10, HB⟩ := hrel
            cases gk with
            | zero => exact absurd HA.out (by simp [laws_FnPacked.l0])
            | succ k4 =>
             have H := HA.out
             clear HA
             simp only [laws_FnPacked.l0] at H
             by_cases c48 : x16_4 < (t474.length : Int)
             ·rw [if_pos c48] at H
              have c48b0 : decide (x16_4 < (t474.length : Int)) = true := decide_eq_true c48
              clear c48
              replace H := Option.bind_eq_some_iff.mp H
              obtain ⟨⟨t498, t499⟩, A490, H⟩ := H
              replace H : (if t499 = 0 then (if 0 ≤ x16_4 then (if t498 = (rd t474 x16_4) then (laws_FnPacked.l0 k4 t468 t474 t481 (wrap64 (x16_4 + 1))) else (some false)) else (none)) else (some false)) = some r := H
              have A49 := Aside0.mk A490
              clear A490
              by_cases c50 : t499 = 0
              ·rw [if_pos c50] at H
               have c50b0 : (t499 == 0) = true := beq_iff_eq.mpr c50
               have c50b1 : (t499 != 0) = false := bne_eq_false_iff_eq.mpr c50
               clear c50
               by_cases c51 : 0 ≤ x16_4
               ·rw [if_pos c51] at H
                have c51b0 : decide (0 ≤ x16_4) = true := decide_eq_true c51
                clear c51
                by_cases c52 : t498 = (rd t474 x16_4)
                ·rw [if_pos c52] at H
                 have c52b0 : (t498 == (rd t474 x16_4)) = true := beq_iff_eq.mpr c52
                 have c52b1 : (t498 != (rd t474 x16_4)) = false := bne_eq_false_iff_eq.mpr c52
                 clear c52
                 have H' := Aside0.mk H
                 clear H
                 go_wp2_with (first | ((with_reducible refine gate_callee (f := 48) rfl ?_); refine goesL_ (some 120) rfl rfl Try.func48 (by kernel_rfl) rfl #[.int .i64 t468, .slice Ao36 t481.length co36, .int .i64 (wrap64 (x16_4 + 1))] rfl G_ ?_; (with_reducible refine (impl_CurveAt.calls k4 t468 _ _ t481 (wrap64 (x16_4 + 1)) t498 t499 _ ?side1 ?side2 A49.out).mono ?_); (case side1 => repeat (first | exact (Kd.R_reads' HO_10.out).2.2 | (with_reducible refine Kd.C_alloc ?_ _) | (with_reducible refine Kd.C_drewN ?_ _) | (with_reducible refine Kd.C_drew ?_))); (case side2 => exact (Kd.R_reads' HO_10.out).2.1); rintro e w53 ⟨rfl, hb⟩; refine ⟨_, rfl, ?_⟩; have n0_ := Aside0.mk (Kd.R_below (by (with_reducible repeat (first | apply Kd.R_alloc | apply Kd.R_drewN | apply Kd.R_drew)); exact HO_7.out) hb); have n1_ := Aside0.mk (Kd.R_below (by (with_reducible repeat (first | apply Kd.R_alloc | apply Kd.R_drewN | apply Kd.R_drew)); exact HO_10.out) hb); have n2_ := Aside0.mk (below_step B_ hb); clear HO_7; clear HO_10; clear HB; have HO_7 := n0_; have HO_10 := n1_; have HB := n2_; clear n0_ n1_ n2_; (try clear hb); (try clear hb2); (try clear hk); (try clear hi); have p500 : 0 ≤ (x16_4 : Int) := A1_; have q500 : x16_4 < (t474.length : Int) := A1_; obtain ⟨ad500, e500, hx500_0⟩ := Kd.at_int (Kd.R_reads' HO_7.out).2.2 x16_4 p500 q500; cases e500; replace p500 := eq_true p500; replace q500 := eq_true q500))
                 go_roundg k4
                 case measure => have := HJ2.out; have := HJ14.out; have := HJ33.out; have := HK4.out; omega
                 case rel => exact ⟨(wrap64 (x16_4 + 1)), R_, H', ⟨by have := HJ2.out; have := HJ14.out; have := HJ33.out; have := HK4.out; omega⟩, ⟨by (with_reducible repeat (first | apply Kd.R_alloc | apply Kd.R_drewN | apply Kd.R_drew)); exact HO_7.out⟩, ⟨by (with_reducible repeat (first | apply Kd.R_alloc | apply Kd.R_drewN | apply Kd.R_drew)); exact HO_10.out⟩, ⟨B_⟩⟩
                ·rw [if_neg c52] at H
                 have c52b0 : (t498 == (rd t474 x16_4)) = false := beq_eq_false_iff_ne.mpr c52
                 have c52b1 : (t498 != (rd t474 x16_4)) = true := bne_iff_ne.mpr c52
                 obtain rfl := Option.some.inj H
                 go_wp2_with (first | ((with_reducible refine gate_callee (f := 48) rfl ?_); refine goesL_ (some 120) rfl rfl Try.func48 (by kernel_rfl) rfl #[.int .i64 t468, .slice Ao36 t481.length co36, .int .i64 (wrap64 (x16_4 + 1))] rfl G_ ?_; (with_reducible refine (impl_CurveAt.calls k4 t468 _ _ t481 (wrap64 (x16_4 + 1)) t498 t499 _ ?side1 ?side2 A49.out).mono ?_); (case side1 => repeat (first | exact (Kd.R_reads' HO_10.out).2.2 | (with_reducible refine Kd.C_alloc ?_ _) | (with_reducible refine Kd.C_drewN ?_ _) | (with_reducible refine Kd.C_drew ?_))); (case side2 => exact (Kd.R_reads' HO_10.out).2.1); rintro e w54 ⟨rfl, hb⟩; refine ⟨_, rfl, ?_⟩; have n0_ := Aside0.mk (Kd.R_below (by (with_reducible repeat (first | apply Kd.R_alloc | apply Kd.R_drewN | apply Kd.R_drew)); exact HO_7.out) hb); have n1_ := Aside0.mk (Kd.R_below (by (with_reducible repeat (first | apply Kd.R_alloc | apply Kd.R_drewN | apply Kd.R_drew)); exact HO_10.out) hb); have n2_ := Aside0.mk (below_step B_ hb); clear HO_7; clear HO_10; clear HB; have HO_7 := n0_; have HO_10 := n1_; have HB := n2_; clear n0_ n1_ n2_; (try clear hb); (try clear hb2); (try clear hk); (try clear hi); have p500 : 0 ≤ (x16_4 : Int) := A1_; have q500 : x16_4 < (t474.length : Int) := A1_; obtain ⟨ad500, e500, hx500_0⟩ := Kd.at_int (Kd.R_reads' HO_7.out).2.2 x16_4 p500 q500; cases e500; replace p500 := eq_true p500; replace q500 := eq_true q500))
                 go_ret
                 exact ⟨by first | rfl | (simp [errW_none, errW_some] <;> rfl) | (simp [*, errW_none, errW_some] <;> rfl), B_⟩
               ·rw [if_neg c51] at H
                exact absurd H (by simp)
              ·rw [if_neg c50] at H
               have c50b0 : (t499 == 0) = false := beq_eq_false_iff_ne.mpr c50
               have c50b1 : (t499 != 0) = true := bne_iff_ne.mpr c50
               obtain rfl := Option.some.inj H
               go_wp2_with (first | ((with_reducible refine gate_callee (f := 48) rfl ?_); refine goesL_ (some 120) rfl rfl Try.func48 (by kernel_rfl) rfl #[.int .i64 t468, .slice Ao36 t481.length co36, .int .i64 (wrap64 (x16_4 + 1))] rfl G_ ?_; (with_reducible refine (impl_CurveAt.calls k4 t468 _ _ t481 (wrap64 (x16_4 + 1)) t498 t499 _ ?side1 ?side2 A49.out).mono ?_); (case side1 => repeat (first | exact (Kd.R_reads' HO_10.out).2.2 | (with_reducible refine Kd.C_alloc ?_ _) | (with_reducible refine Kd.C_drewN ?_ _) | (with_reducible refine Kd.C_drew ?_))); (case side2 => exact (Kd.R_reads' HO_10.out).2.1); rintro e w55 ⟨rfl, hb⟩; refine ⟨_, rfl, ?_⟩; have n0_ := Aside0.mk (Kd.R_below (by (with_reducible repeat (first | apply Kd.R_alloc | apply Kd.R_drewN | apply Kd.R_drew)); exact HO_7.out) hb); have n1_ := Aside0.mk (Kd.R_below (by (with_reducible repeat (first | apply Kd.R_alloc | apply Kd.R_drewN | apply Kd.R_drew)); exact HO_10.out) hb); have n2_ := Aside0.mk (below_step B_ hb); clear HO_7; clear HO_10; clear HB; have HO_7 := n0_; have HO_10 := n1_; have HB := n2_; clear n0_ n1_ n2_; (try clear hb); (try clear hb2); (try clear hk); (try clear hi)))
               go_ret
               exact ⟨by first | rfl | (simp [errW_none, errW_some] <;> rfl) | (simp [*, errW_none, errW_some] <;> rfl), B_⟩
             ·rw [if_neg c48] at H
              have c48b0 : decide (x16_4 < (t474.length : Int)) = false := decide_eq_false c48
              clear c48
              obtain rfl := Option.some.inj H
              go_wp2
              go_ret
              exact ⟨by first | rfl | (simp [errW_none, errW_some] <;> rfl) | (simp [*, errW_none, errW_some] <;> rfl), B_⟩
       ·rw [if_neg c30] at H
        have c30b0 : (t478 == 0) = false := beq_eq_false_iff_ne.mpr c30
        have c30b1 : (t478 != 0) = true := bne_iff_ne.mpr c30
        obtain rfl := Option.some.inj H
        go_wp2
        go_ret
        exact ⟨by first | rfl | (simp [errW_none, errW_some] <;> rfl) | (simp [*, errW_none, errW_some] <;> rfl), B_⟩

/-- THE ONE PURE STATEMENT of laws_FnPacked: yours. -/
def laws_FnPacked.Pure : Prop := ∀ (l0 : List Int) (l1 : List Int), l0.length ≤ maxLen → l0.length * 1 ≤ 140737488351232 → (∀ x ∈ l0, (Lit.int .u8 x).wf = true) → l1.length ≤ maxLen → l1.length * 1 ≤ 140737488351232 → (∀ x ∈ l1, (Lit.int .u8 x).wf = true) → ∃ k, laws_FnPacked.f k l0 l1 = some true
theorem laws_FnPacked.walk (P : laws_FnPacked.Pure) (a0 : Option Addr) (len0 cap0 : Nat) (z0 : List Int) (a1 : Option Addr) (len1 cap1 : Nat) (z1 : List Int) (w : World) (w0 : (a0 = none ∧ len0 = 0 ∧ cap0 = 0 ∧ z0 = []) ∨ ∃ x, a0 = some x ∧ len0 ≤ cap0 ∧ cap0 ≤ maxLen ∧ z0.length = cap0 ∧ (∀ i, i < z0.length → w.cell? (x.add i) = some (.int .u8 (z0.getD i 0))) ∧ ∀ n ∈ z0, (Lit.int .u8 n).wf = true) (y0 : len0 * 1 ≤ 140737488351232) (w1 : (a1 = none ∧ len1 = 0 ∧ cap1 = 0 ∧ z1 = []) ∨ ∃ x, a1 = some x ∧ len1 ≤ cap1 ∧ cap1 ≤ maxLen ∧ z1.length = cap1 ∧ (∀ i, i < z1.length → w.cell? (x.add i) = some (.int .u8 (z1.getD i 0))) ∧ ∀ n ∈ z1, (Lit.int .u8 n).wf = true) (y1 : len1 * 1 ≤ 140737488351232) :
  Calls Try.prog 11 #[.slice a0 len0 cap0, .slice a1 len1 cap1] w fun e w' => e = .returned (.bool true) ∧ Below w.heap.size w w' := by
 obtain ⟨l0, rfl, hr0, hm0, hw0, hc0⟩ := ReadsInt.ofRowC w0
 obtain ⟨l1, rfl, hr1, hm1, hw1, hc1⟩ := ReadsInt.ofRowC w1
 obtain ⟨k, h⟩ := P l0 l1 hm0 y0 hw0 hm1 y1 hw1
 refine (laws_FnPacked.calls k _ _ l0 _ _ l1 true w (Kd.C_of_reads (d := (0 : Int)) (h1 := fun _ => rfl) hr0) hc0 (Kd.C_of_reads (d := (0 : Int)) (h1 := fun _ => rfl) hr1) hc1 h).mono ?_
 rintro e w' ⟨rfl, hd⟩
 exact ⟨rfl, hd⟩

end Go.Proofs.Ytonpikcbmgmchaa.PFnPacked
