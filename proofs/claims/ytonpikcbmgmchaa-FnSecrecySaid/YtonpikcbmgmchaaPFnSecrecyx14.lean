-- By xprint.py and given.py (wip/gen): the kit's print of this seat, some functions' contracts given.
import Derived.Test.YtonpikcbmgmchaaPFnSecrecyx0
import Derived.Test.YtonpikcbmgmchaaPFnSecrecyx4
import Derived.Test.YtonpikcbmgmchaaPFnSecrecyx10
import Derived.Test.YtonpikcbmgmchaaPFnSecrecyx11
import Derived.Test.YtonpikcbmgmchaaPFnSecrecyx12
import Derived.Test.YtonpikcbmgmchaaPFnSecrecyx13
namespace Go.Proofs.Ytonpikcbmgmchaa.PFnSecrecy
open Go.RowKit Go.Proofs.YtonpikcbmgmchaaW.PrintWords Go.Proofs.YtonpikcbmgmchaaW.PrintLast Go.Proofs.YtonpikcbmgmchaaW.PrintMore
attribute [local go_sem] max2_int min2_int max_two min_two max_three min_three max_four min_four   -- for this text's walks alone
set_option linter.unusedVariables false
set_option linter.unusedSimpArgs false

/-! ### laws_FnSecrecy: function 13 -/
mutual
def laws_FnSecrecy.j0 : Nat → List Int → List Int → Bool → Option (Bool)
 | 0, _, _, _ => none
 | k + 1, x0, x1, x27 => if x27 = true then (some true) else ((spec_P6Prime.f x0).bind fun t497 => ((spec_P6Curve.f k x0 t497 3).bind fun t498 => ((spec_P6Points.f k x1 t497 0).bind fun t501 => ((spec_DealShares.f k t497 t498 t501).bind fun bt504 => ((impl_CountSecrets.f k t497 bt504.1 3).bind fun bt508 => ((spec_CountSecrets.f k t497 bt504.1 3).bind fun bt512 => (if bt504.2 = 0 then (if bt508.2 = bt512.2 then (if bt508.2 = 0 then ((laws_f6ints.f k bt508.1 bt512.1).bind fun t516 => (if t516 = true then (laws_FnSecrecy.j1 k t497 3 t501 bt504.1 bt512.1 ((bt512.1.length : Int) != t497)) else (laws_FnSecrecy.j1 k t497 3 t501 bt504.1 bt512.1 true))) else (laws_FnSecrecy.j1 k t497 3 t501 bt504.1 bt512.1 true)) else (laws_FnSecrecy.j1 k t497 3 t501 bt504.1 bt512.1 true)) else (laws_FnSecrecy.j1 k t497 3 t501 bt504.1 bt512.1 true))))))))
def laws_FnSecrecy.j1 : Nat → Int → Int → List Int → List (S68) → List Int → Bool → Option (Bool)
 | 0, _, _, _, _, _, _ => none
 | k + 1, x5, x7, x8, x9, x13, x79 => if x79 = true then (some false) else (laws_FnSecrecy.l0 k x5 x7 x9 x13 (x8.length : Int) 0 0)
def laws_FnSecrecy.l0 : Nat → Int → Int → List (S68) → List Int → Int → Int → Int → Option (Bool)
 | 0, _, _, _, _, _, _, _ => none
 | k + 1, x5, x7, x9, x13, x15, x16, x17 => if x17 < x5 then (if x15 ≤ x7 then (if 0 ≤ x17 then (if x17 < (x13.length : Int) then (if 0 < (x13.length : Int) then (if (rd x13 x17) = (rd x13 0) then (laws_FnSecrecy.l0 k x5 x7 x9 x13 x15 (wrap64 (x16 + (rd x13 x17))) (wrap64 (x17 + 1))) else (some false)) else (none)) else (none)) else (none)) else (if 0 ≤ x17 then (if x17 < (x13.length : Int) then (laws_FnSecrecy.l0 k x5 x7 x9 x13 x15 (wrap64 (x16 + (rd x13 x17))) (wrap64 (x17 + 1))) else (none)) else (none))) else (laws_FnSecrecy.l1 k x5 x7 x9 x13 x15 x16 1 x15)
def laws_FnSecrecy.l1 : Nat → Int → Int → List (S68) → List Int → Int → Int → Int → Int → Option (Bool)
 | 0, _, _, _, _, _, _, _, _ => none
 | k + 1, x5, x7, x9, x13, x15, x16, x18, x19 => if x19 ≤ x7 then (laws_FnSecrecy.l1 k x5 x7 x9 x13 x15 x16 (wrap64 (x18 * x5)) (wrap64 (x19 + 1))) else (if x16 = x18 then (if x15 ≤ x7 then (some true) else ((impl_OpenAt.f k x5 x9 0).bind fun bt521 => (if bt521.2 = 0 then (if bt521.1 ≥ 0 then (if bt521.1 < x5 then (if 0 ≤ bt521.1 then (if bt521.1 < (x13.length : Int) then (some ((rd x13 bt521.1) == 1)) else (none)) else (none)) else (some false)) else (some false)) else (some false)))) else (some false))
end
def laws_FnSecrecy.f (k : Nat) (l0 : List Int) (l1 : List Int) : Option (Bool) := (laws_f6big.f l0).bind fun t495 => (if t495 = true then (laws_FnSecrecy.j0 k l0 l1 true) else ((laws_f6big.f l1).bind fun t496 => (laws_FnSecrecy.j0 k l0 l1 t496)))
theorem laws_FnSecrecy.mono_l : ∀ k, (∀ y0 y1 y2, LeO (laws_FnSecrecy.j0 k y0 y1 y2) (laws_FnSecrecy.j0 (k + 1) y0 y1 y2)) ∧ (∀ y0 y1 y2 y3 y4 y5, LeO (laws_FnSecrecy.j1 k y0 y1 y2 y3 y4 y5) (laws_FnSecrecy.j1 (k + 1) y0 y1 y2 y3 y4 y5)) ∧ (∀ y0 y1 y2 y3 y4 y5 y6, LeO (laws_FnSecrecy.l0 k y0 y1 y2 y3 y4 y5 y6) (laws_FnSecrecy.l0 (k + 1) y0 y1 y2 y3 y4 y5 y6)) ∧ (∀ y0 y1 y2 y3 y4 y5 y6 y7, LeO (laws_FnSecrecy.l1 k y0 y1 y2 y3 y4 y5 y6 y7) (laws_FnSecrecy.l1 (k + 1) y0 y1 y2 y3 y4 y5 y6 y7))
 | 0 => ⟨fun _ _ _ r h => by simp [laws_FnSecrecy.j0] at h, fun _ _ _ _ _ _ r h => by simp [laws_FnSecrecy.j1] at h, fun _ _ _ _ _ _ _ r h => by simp [laws_FnSecrecy.l0] at h, fun _ _ _ _ _ _ _ _ r h => by simp [laws_FnSecrecy.l1] at h⟩
 | k + 1 => by
  obtain ⟨ih0, ih1, ih2, ih3⟩ := laws_FnSecrecy.mono_l k
  refine ⟨?_, ?_, ?_, ?_⟩
  ·intro y0 y1 y2
   unfold laws_FnSecrecy.j0
   repeat' first
   | (with_reducible exact ih0 _ _ _)
   | (with_reducible exact ih1 _ _ _ _ _ _)
   | (with_reducible exact ih2 _ _ _ _ _ _ _)
   | (with_reducible exact ih3 _ _ _ _ _ _ _ _)
   | (with_reducible exact impl_CountSecrets.mono _ _ _ _)
   | (with_reducible exact impl_OpenAt.mono _ _ _ _)
   | (with_reducible exact laws_f6ints.mono _ _ _)
   | (with_reducible exact spec_CountSecrets.mono _ _ _ _)
   | (with_reducible exact spec_DealShares.mono _ _ _ _)
   | (with_reducible exact spec_P6Curve.mono _ _ _ _)
   | (with_reducible exact spec_P6Points.mono _ _ _ _)
   | (with_reducible exact LeO.refl _)
   | (with_reducible exact LeO.none _)
   | (with_reducible refine LeO.ite ?_ ?_)
   | (with_reducible refine LeO.bind ?_ (fun _ => ?_))
   | exact ih0 _ _ _
   | exact ih1 _ _ _ _ _ _
   | exact ih2 _ _ _ _ _ _ _
   | exact ih3 _ _ _ _ _ _ _ _
   | exact impl_CountSecrets.mono _ _ _ _
   | exact impl_OpenAt.mono _ _ _ _
   | exact laws_f6ints.mono _ _ _
   | exact spec_CountSecrets.mono _ _ _ _
   | exact spec_DealShares.mono _ _ _ _
   | exact spec_P6Curve.mono _ _ _ _
   | exact spec_P6Points.mono _ _ _ _
   | exact LeO.none _
   | refine LeO.ite ?_ ?_
   | refine LeO.bind ?_ (fun _ => ?_)
  ·intro y0 y1 y2 y3 y4 y5
   unfold laws_FnSecrecy.j1
   repeat' first
   | (with_reducible exact ih0 _ _ _)
   | (with_reducible exact ih1 _ _ _ _ _ _)
   | (with_reducible exact ih2 _ _ _ _ _ _ _)
   | (with_reducible exact ih3 _ _ _ _ _ _ _ _)
   | (with_reducible exact impl_CountSecrets.mono _ _ _ _)
   | (with_reducible exact impl_OpenAt.mono _ _ _ _)
   | (with_reducible exact laws_f6ints.mono _ _ _)
   | (with_reducible exact spec_CountSecrets.mono _ _ _ _)
   | (with_reducible exact spec_DealShares.mono _ _ _ _)
   | (with_reducible exact spec_P6Curve.mono _ _ _ _)
   | (with_reducible exact spec_P6Points.mono _ _ _ _)
   | (with_reducible exact LeO.refl _)
   | (with_reducible exact LeO.none _)
   | (with_reducible refine LeO.ite ?_ ?_)
   | (with_reducible refine LeO.bind ?_ (fun _ => ?_))
   | exact ih0 _ _ _
   | exact ih1 _ _ _ _ _ _
   | exact ih2 _ _ _ _ _ _ _
   | exact ih3 _ _ _ _ _ _ _ _
   | exact impl_CountSecrets.mono _ _ _ _
   | exact impl_OpenAt.mono _ _ _ _
   | exact laws_f6ints.mono _ _ _
   | exact spec_CountSecrets.mono _ _ _ _
   | exact spec_DealShares.mono _ _ _ _
   | exact spec_P6Curve.mono _ _ _ _
   | exact spec_P6Points.mono _ _ _ _
   | exact LeO.none _
   | refine LeO.ite ?_ ?_
   | refine LeO.bind ?_ (fun _ => ?_)
  ·intro y0 y1 y2 y3 y4 y5 y6
   unfold laws_FnSecrecy.l0
   repeat' first
   | (with_reducible exact ih0 _ _ _)
   | (with_reducible exact ih1 _ _ _ _ _ _)
   | (with_reducible exact ih2 _ _ _ _ _ _ _)
   | (with_reducible exact ih3 _ _ _ _ _ _ _ _)
   | (with_reducible exact impl_CountSecrets.mono _ _ _ _)
   | (with_reducible exact impl_OpenAt.mono _ _ _ _)
   | (with_reducible exact laws_f6ints.mono _ _ _)
   | (with_reducible exact spec_CountSecrets.mono _ _ _ _)
   | (with_reducible exact spec_DealShares.mono _ _ _ _)
   | (with_reducible exact spec_P6Curve.mono _ _ _ _)
   | (with_reducible exact spec_P6Points.mono _ _ _ _)
   | (with_reducible exact LeO.refl _)
   | (with_reducible exact LeO.none _)
   | (with_reducible refine LeO.ite ?_ ?_)
   | (with_reducible refine LeO.bind ?_ (fun _ => ?_))
   | exact ih0 _ _ _
   | exact ih1 _ _ _ _ _ _
   | exact ih2 _ _ _ _ _ _ _
   | exact ih3 _ _ _ _ _ _ _ _
   | exact impl_CountSecrets.mono _ _ _ _
   | exact impl_OpenAt.mono _ _ _ _
   | exact laws_f6ints.mono _ _ _
   | exact spec_CountSecrets.mono _ _ _ _
   | exact spec_DealShares.mono _ _ _ _
   | exact spec_P6Curve.mono _ _ _ _
   | exact spec_P6Points.mono _ _ _ _
   | exact LeO.none _
   | refine LeO.ite ?_ ?_
   | refine LeO.bind ?_ (fun _ => ?_)
  ·intro y0 y1 y2 y3 y4 y5 y6 y7
   unfold laws_FnSecrecy.l1
   repeat' first
   | (with_reducible exact ih0 _ _ _)
   | (with_reducible exact ih1 _ _ _ _ _ _)
   | (with_reducible exact ih2 _ _ _ _ _ _ _)
   | (with_reducible exact ih3 _ _ _ _ _ _ _ _)
   | (with_reducible exact impl_CountSecrets.mono _ _ _ _)
   | (with_reducible exact impl_OpenAt.mono _ _ _ _)
   | (with_reducible exact laws_f6ints.mono _ _ _)
   | (with_reducible exact spec_CountSecrets.mono _ _ _ _)
   | (with_reducible exact spec_DealShares.mono _ _ _ _)
   | (with_reducible exact spec_P6Curve.mono _ _ _ _)
   | (with_reducible exact spec_P6Points.mono _ _ _ _)
   | (with_reducible exact LeO.refl _)
   | (with_reducible exact LeO.none _)
   | (with_reducible refine LeO.ite ?_ ?_)
   | (with_reducible refine LeO.bind ?_ (fun _ => ?_))
   | exact ih0 _ _ _
   | exact ih1 _ _ _ _ _ _
   | exact ih2 _ _ _ _ _ _ _
   | exact ih3 _ _ _ _ _ _ _ _
   | exact impl_CountSecrets.mono _ _ _ _
   | exact impl_OpenAt.mono _ _ _ _
   | exact laws_f6ints.mono _ _ _
   | exact spec_CountSecrets.mono _ _ _ _
   | exact spec_DealShares.mono _ _ _ _
   | exact spec_P6Curve.mono _ _ _ _
   | exact spec_P6Points.mono _ _ _ _
   | exact LeO.none _
   | refine LeO.ite ?_ ?_
   | refine LeO.bind ?_ (fun _ => ?_)
theorem laws_FnSecrecy.mono : ∀ a0 a1 k, LeO (laws_FnSecrecy.f k a0 a1) (laws_FnSecrecy.f (k + 1) a0 a1) := by
 intro a0 a1 k
 obtain ⟨ih0, ih1, ih2, ih3⟩ := laws_FnSecrecy.mono_l k
 unfold laws_FnSecrecy.f
 repeat' first
   | (with_reducible exact ih0 _ _ _)
   | (with_reducible exact ih1 _ _ _ _ _ _)
   | (with_reducible exact ih2 _ _ _ _ _ _ _)
   | (with_reducible exact ih3 _ _ _ _ _ _ _ _)
   | (with_reducible exact impl_CountSecrets.mono _ _ _ _)
   | (with_reducible exact impl_OpenAt.mono _ _ _ _)
   | (with_reducible exact laws_f6ints.mono _ _ _)
   | (with_reducible exact spec_CountSecrets.mono _ _ _ _)
   | (with_reducible exact spec_DealShares.mono _ _ _ _)
   | (with_reducible exact spec_P6Curve.mono _ _ _ _)
   | (with_reducible exact spec_P6Points.mono _ _ _ _)
   | (with_reducible exact LeO.refl _)
   | (with_reducible exact LeO.none _)
   | (with_reducible refine LeO.ite ?_ ?_)
   | (with_reducible refine LeO.bind ?_ (fun _ => ?_))
   | exact ih0 _ _ _
   | exact ih1 _ _ _ _ _ _
   | exact ih2 _ _ _ _ _ _ _
   | exact ih3 _ _ _ _ _ _ _ _
   | exact impl_CountSecrets.mono _ _ _ _
   | exact impl_OpenAt.mono _ _ _ _
   | exact laws_f6ints.mono _ _ _
   | exact spec_CountSecrets.mono _ _ _ _
   | exact spec_DealShares.mono _ _ _ _
   | exact spec_P6Curve.mono _ _ _ _
   | exact spec_P6Points.mono _ _ _ _
   | exact LeO.none _
   | refine LeO.ite ?_ ?_
   | refine LeO.bind ?_ (fun _ => ?_)
set_option maxHeartbeats 8000000 in
set_option maxRecDepth 100000 in
theorem laws_FnSecrecy.calls (k : Nat) (A0 : Option Addr) (c0 : Nat) (l0 : List Int) (A1 : Option Addr) (c1 : Nat) (l1 : List Int) (r : Bool) (w : World) (hr0 : Kd.C (Kd.int .u8) w A0 l0.length l0) (hc0 : l0.length ≤ c0) (hr1 : Kd.C (Kd.int .u8) w A1 l1.length l1) (hc1 : l1.length ≤ c1) (h : laws_FnSecrecy.f k l0 l1 = some r) :
  Calls Try.prog 13 #[.slice A0 l0.length c0, .slice A1 l1.length c1] w fun e w' => e = .returned (.bool r) ∧ Below w.heap.size w w' := by
 have HR0 := Aside0.mk hr0
 have HC0 := Aside0.mk hc0
 clear hr0 hc0
 have HR1 := Aside0.mk hr1
 have HC1 := Aside0.mk hc1
 clear hr1 hc1
 have HB := Aside0.mk (Below.refl w.heap.size w)
 have H : ((laws_f6big.f l0).bind fun t495 => (if t495 = true then (laws_FnSecrecy.j0 k l0 l1 true) else ((laws_f6big.f l1).bind fun t496 => (laws_FnSecrecy.j0 k l0 l1 t496)))) = some r := h
 clear h
 have HC3 := Aside0.mk H
 clear H
 go_enter Try.func13, Try.ntmps13
 go_upto_region 1 with (fail)
 repeat (go_quiet (fail); go_upto_region 1 with (fail))
 go_cut [27] (fun v27 wc => ∃ (kq : Nat) (x27_2 : Bool), v27 = .bool x27_2 ∧ Aside0 (laws_FnSecrecy.j0 kq l0 l1 x27_2 = some r) ∧ Aside0 (kq ≤ k) ∧ Aside0 (Below w.heap.size w wc))
 case first =>
  have H := HC3.out
  clear HC3
  replace H := Option.bind_eq_some_iff.mp H
  obtain ⟨t495, A40, H⟩ := H
  replace H : (if t495 = true then (laws_FnSecrecy.j0 k l0 l1 true) else ((laws_f6big.f l1).bind fun t496 => (laws_FnSecrecy.j0 k l0 l1 t496))) = some r := H
  have A4 := Aside0.mk A40
  clear A40
  by_cases c5 : t495 = true
  ·subst c5
   have H1 : (laws_FnSecrecy.j0 k l0 l1 true) = some r := by rw [if_pos rfl] at H; exact H
   clear H
   have H := H1
   clear H1
   have H' := Aside0.mk H
   clear H
   go_wp2_with (first | (go_at_call 41; (with_reducible refine (laws_f6big.calls _ _ l0 true _ ?side1 ?side2 A4.out).mono ?_); (case side1 => repeat (first | exact (Kd.C_below HR0.out HB.out) | (with_reducible refine Kd.C_alloc ?_ _) | (with_reducible refine Kd.C_drewN ?_ _) | (with_reducible refine Kd.C_drew ?_))); (case side2 => exact HC0.out); rintro e w' ⟨rfl, ⟨nd, rfl⟩⟩; (try first | exact ⟨rfl, _, World.drewN_drewN _ _ _⟩ | exact ⟨rfl, _, Eq.trans (World.drewN_drewN _ _ _) (congrArg (World.drewN _) (Nat.add_assoc _ _ _))⟩)))
   repeat (go_quiet (first | (go_at_call 41; (with_reducible refine (laws_f6big.calls _ _ l0 true _ ?side1 ?side2 A4.out).mono ?_); (case side1 => repeat (first | exact (Kd.C_below HR0.out HB.out) | (with_reducible refine Kd.C_alloc ?_ _) | (with_reducible refine Kd.C_drewN ?_ _) | (with_reducible refine Kd.C_drew ?_))); (case side2 => exact HC0.out); rintro e w' ⟨rfl, ⟨nd, rfl⟩⟩; (try first | exact ⟨rfl, _, World.drewN_drewN _ _ _⟩ | exact ⟨rfl, _, Eq.trans (World.drewN_drewN _ _ _) (congrArg (World.drewN _) (Nat.add_assoc _ _ _))⟩))); try go_wp2_with (first | (go_at_call 41; (with_reducible refine (laws_f6big.calls _ _ l0 true _ ?side1 ?side2 A4.out).mono ?_); (case side1 => repeat (first | exact (Kd.C_below HR0.out HB.out) | (with_reducible refine Kd.C_alloc ?_ _) | (with_reducible refine Kd.C_drewN ?_ _) | (with_reducible refine Kd.C_drew ?_))); (case side2 => exact HC0.out); rintro e w' ⟨rfl, ⟨nd, rfl⟩⟩; (try first | exact ⟨rfl, _, World.drewN_drewN _ _ _⟩ | exact ⟨rfl, _, Eq.trans (World.drewN_drewN _ _ _) (congrArg (World.drewN _) (Nat.add_assoc _ _ _))⟩))))
   go_meet
   case rel => exact ⟨_, (true), R_, H', ⟨by first | omega | exact Nat.le_refl _⟩, ⟨B_⟩⟩
  ·replace c5 := Bool.eq_false_iff.mpr c5
   subst c5
   have H1 : ((laws_f6big.f l1).bind fun t496 => (laws_FnSecrecy.j0 k l0 l1 t496)) = some r := by rw [if_neg (show ¬ (false = true) by decide)] at H; exact H
   clear H
   have H := H1
   clear H1
   replace H := Option.bind_eq_some_iff.mp H
   obtain ⟨t496, A60, H⟩ := H
   replace H : (laws_FnSecrecy.j0 k l0 l1 t496) = some r := H
   have A6 := Aside0.mk A60
   clear A60
   have H' := Aside0.mk H
   clear H
   go_wp2_with (first | (go_at_call 41; (with_reducible refine (laws_f6big.calls _ _ l0 false _ ?side1 ?side2 A4.out).mono ?_); (case side1 => repeat (first | exact (Kd.C_below HR0.out HB.out) | (with_reducible refine Kd.C_alloc ?_ _) | (with_reducible refine Kd.C_drewN ?_ _) | (with_reducible refine Kd.C_drew ?_))); (case side2 => exact HC0.out); rintro e w' ⟨rfl, ⟨nd, rfl⟩⟩; (try first | exact ⟨rfl, _, World.drewN_drewN _ _ _⟩ | exact ⟨rfl, _, Eq.trans (World.drewN_drewN _ _ _) (congrArg (World.drewN _) (Nat.add_assoc _ _ _))⟩)) | (go_at_call 41; (with_reducible refine (laws_f6big.calls _ _ l1 t496 _ ?side1 ?side2 A6.out).mono ?_); (case side1 => repeat (first | exact (Kd.C_below HR1.out B_) | (with_reducible refine Kd.C_alloc ?_ _) | (with_reducible refine Kd.C_drewN ?_ _) | (with_reducible refine Kd.C_drew ?_))); (case side2 => exact HC1.out); rintro e w' ⟨rfl, ⟨nd, rfl⟩⟩; (try first | exact ⟨rfl, _, World.drewN_drewN _ _ _⟩ | exact ⟨rfl, _, Eq.trans (World.drewN_drewN _ _ _) (congrArg (World.drewN _) (Nat.add_assoc _ _ _))⟩)))
   repeat (go_quiet (first | (go_at_call 41; (with_reducible refine (laws_f6big.calls _ _ l0 false _ ?side1 ?side2 A4.out).mono ?_); (case side1 => repeat (first | exact (Kd.C_below HR0.out HB.out) | (with_reducible refine Kd.C_alloc ?_ _) | (with_reducible refine Kd.C_drewN ?_ _) | (with_reducible refine Kd.C_drew ?_))); (case side2 => exact HC0.out); rintro e w' ⟨rfl, ⟨nd, rfl⟩⟩; (try first | exact ⟨rfl, _, World.drewN_drewN _ _ _⟩ | exact ⟨rfl, _, Eq.trans (World.drewN_drewN _ _ _) (congrArg (World.drewN _) (Nat.add_assoc _ _ _))⟩)) | (go_at_call 41; (with_reducible refine (laws_f6big.calls _ _ l1 t496 _ ?side1 ?side2 A6.out).mono ?_); (case side1 => repeat (first | exact (Kd.C_below HR1.out B_) | (with_reducible refine Kd.C_alloc ?_ _) | (with_reducible refine Kd.C_drewN ?_ _) | (with_reducible refine Kd.C_drew ?_))); (case side2 => exact HC1.out); rintro e w' ⟨rfl, ⟨nd, rfl⟩⟩; (try first | exact ⟨rfl, _, World.drewN_drewN _ _ _⟩ | exact ⟨rfl, _, Eq.trans (World.drewN_drewN _ _ _) (congrArg (World.drewN _) (Nat.add_assoc _ _ _))⟩))); try go_wp2_with (first | (go_at_call 41; (with_reducible refine (laws_f6big.calls _ _ l0 false _ ?side1 ?side2 A4.out).mono ?_); (case side1 => repeat (first | exact (Kd.C_below HR0.out HB.out) | (with_reducible refine Kd.C_alloc ?_ _) | (with_reducible refine Kd.C_drewN ?_ _) | (with_reducible refine Kd.C_drew ?_))); (case side2 => exact HC0.out); rintro e w' ⟨rfl, ⟨nd, rfl⟩⟩; (try first | exact ⟨rfl, _, World.drewN_drewN _ _ _⟩ | exact ⟨rfl, _, Eq.trans (World.drewN_drewN _ _ _) (congrArg (World.drewN _) (Nat.add_assoc _ _ _))⟩)) | (go_at_call 41; (with_reducible refine (laws_f6big.calls _ _ l1 t496 _ ?side1 ?side2 A6.out).mono ?_); (case side1 => repeat (first | exact (Kd.C_below HR1.out B_) | (with_reducible refine Kd.C_alloc ?_ _) | (with_reducible refine Kd.C_drewN ?_ _) | (with_reducible refine Kd.C_drew ?_))); (case side2 => exact HC1.out); rintro e w' ⟨rfl, ⟨nd, rfl⟩⟩; (try first | exact ⟨rfl, _, World.drewN_drewN _ _ _⟩ | exact ⟨rfl, _, Eq.trans (World.drewN_drewN _ _ _) (congrArg (World.drewN _) (Nat.add_assoc _ _ _))⟩))))
   go_meet
   case rel => exact ⟨_, (t496), R_, H', ⟨by first | omega | exact Nat.le_refl _⟩, ⟨B_⟩⟩
 case rest =>
  clear HC3
  try clear c1
  try clear p2
  try clear c5
  obtain ⟨kq, x27_2, rfl, HA, HJ2, HB⟩ := hcut
  cases kq with
  | zero => exact absurd HA.out (by simp [laws_FnSecrecy.j0])
  | succ kj2 =>
   have H := HA.out
   clear HA
   simp only [laws_FnSecrecy.j0] at H
   by_cases c7 : x27_2 = true
   ·subst c7
    have H1 : (some true) = some r := by rw [if_pos rfl] at H; exact H
    clear H
    have H := H1
    clear H1
    obtain rfl := Option.some.inj H
    go_wp2
    repeat (go_quiet (fail); try go_wp2)
    go_ret
    exact ⟨by first | rfl | (simp [errW_none, errW_some] <;> rfl) | (simp [*, errW_none, errW_some] <;> rfl), B_⟩
   ·replace c7 := Bool.eq_false_iff.mpr c7
    subst c7
    have H1 : ((spec_P6Prime.f l0).bind fun t497 => ((spec_P6Curve.f kj2 l0 t497 3).bind fun t498 => ((spec_P6Points.f kj2 l1 t497 0).bind fun t501 => ((spec_DealShares.f kj2 t497 t498 t501).bind fun bt504 => ((impl_CountSecrets.f kj2 t497 bt504.1 3).bind fun bt508 => ((spec_CountSecrets.f kj2 t497 bt504.1 3).bind fun bt512 => (if bt504.2 = 0 then (if bt508.2 = bt512.2 then (if bt508.2 = 0 then ((laws_f6ints.f kj2 bt508.1 bt512.1).bind fun t516 => (if t516 = true then (laws_FnSecrecy.j1 kj2 t497 3 t501 bt504.1 bt512.1 ((bt512.1.length : Int) != t497)) else (laws_FnSecrecy.j1 kj2 t497 3 t501 bt504.1 bt512.1 true))) else (laws_FnSecrecy.j1 kj2 t497 3 t501 bt504.1 bt512.1 true)) else (laws_FnSecrecy.j1 kj2 t497 3 t501 bt504.1 bt512.1 true)) else (laws_FnSecrecy.j1 kj2 t497 3 t501 bt504.1 bt512.1 true)))))))) = some r := by rw [if_neg (show ¬ (false = true) by decide)] at H; exact H
    clear H
    have H := H1
    clear H1
    replace H := Option.bind_eq_some_iff.mp H
    obtain ⟨t497, A80, H⟩ := H
    replace H : ((spec_P6Curve.f kj2 l0 t497 3).bind fun t498 => ((spec_P6Points.f kj2 l1 t497 0).bind fun t501 => ((spec_DealShares.f kj2 t497 t498 t501).bind fun bt504 => ((impl_CountSecrets.f kj2 t497 bt504.1 3).bind fun bt508 => ((spec_CountSecrets.f kj2 t497 bt504.1 3).bind fun bt512 => (if bt504.2 = 0 then (if bt508.2 = bt512.2 then (if bt508.2 = 0 then ((laws_f6ints.f kj2 bt508.1 bt512.1).bind fun t516 => (if t516 = true then (laws_FnSecrecy.j1 kj2 t497 3 t501 bt504.1 bt512.1 ((bt512.1.length : Int) != t497)) else (laws_FnSecrecy.j1 kj2 t497 3 t501 bt504.1 bt512.1 true))) else (laws_FnSecrecy.j1 kj2 t497 3 t501 bt504.1 bt512.1 true)) else (laws_FnSecrecy.j1 kj2 t497 3 t501 bt504.1 bt512.1 true)) else (laws_FnSecrecy.j1 kj2 t497 3 t501 bt504.1 bt512.1 true))))))) = some r := H
    have A8 := Aside0.mk A80
    clear A80
    replace H := Option.bind_eq_some_iff.mp H
    obtain ⟨t498, A90, H⟩ := H
    replace H : ((spec_P6Points.f kj2 l1 t497 0).bind fun t501 => ((spec_DealShares.f kj2 t497 t498 t501).bind fun bt504 => ((impl_CountSecrets.f kj2 t497 bt504.1 3).bind fun bt508 => ((spec_CountSecrets.f kj2 t497 bt504.1 3).bind fun bt512 => (if bt504.2 = 0 then (if bt508.2 = bt512.2 then (if bt508.2 = 0 then ((laws_f6ints.f kj2 bt508.1 bt512.1).bind fun t516 => (if t516 = true then (laws_FnSecrecy.j1 kj2 t497 3 t501 bt504.1 bt512.1 ((bt512.1.length : Int) != t497)) else (laws_FnSecrecy.j1 kj2 t497 3 t501 bt504.1 bt512.1 true))) else (laws_FnSecrecy.j1 kj2 t497 3 t501 bt504.1 bt512.1 true)) else (laws_FnSecrecy.j1 kj2 t497 3 t501 bt504.1 bt512.1 true)) else (laws_FnSecrecy.j1 kj2 t497 3 t501 bt504.1 bt512.1 true)))))) = some r := H
    have A9 := Aside0.mk A90
    clear A90
    replace H := Option.bind_eq_some_iff.mp H
    obtain ⟨t501, A100, H⟩ := H
    replace H : ((spec_DealShares.f kj2 t497 t498 t501).bind fun bt504 => ((impl_CountSecrets.f kj2 t497 bt504.1 3).bind fun bt508 => ((spec_CountSecrets.f kj2 t497 bt504.1 3).bind fun bt512 => (if bt504.2 = 0 then (if bt508.2 = bt512.2 then (if bt508.2 = 0 then ((laws_f6ints.f kj2 bt508.1 bt512.1).bind fun t516 => (if t516 = true then (laws_FnSecrecy.j1 kj2 t497 3 t501 bt504.1 bt512.1 ((bt512.1.length : Int) != t497)) else (laws_FnSecrecy.j1 kj2 t497 3 t501 bt504.1 bt512.1 true))) else (laws_FnSecrecy.j1 kj2 t497 3 t501 bt504.1 bt512.1 true)) else (laws_FnSecrecy.j1 kj2 t497 3 t501 bt504.1 bt512.1 true)) else (laws_FnSecrecy.j1 kj2 t497 3 t501 bt504.1 bt512.1 true))))) = some r := H
    have A10 := Aside0.mk A100
    clear A100
    replace H := Option.bind_eq_some_iff.mp H
    obtain ⟨⟨t504, t505⟩, A110, H⟩ := H
    replace H : ((impl_CountSecrets.f kj2 t497 t504 3).bind fun bt508 => ((spec_CountSecrets.f kj2 t497 t504 3).bind fun bt512 => (if t505 = 0 then (if bt508.2 = bt512.2 then (if bt508.2 = 0 then ((laws_f6ints.f kj2 bt508.1 bt512.1).bind fun t516 => (if t516 = true then (laws_FnSecrecy.j1 kj2 t497 3 t501 t504 bt512.1 ((bt512.1.length : Int) != t497)) else (laws_FnSecrecy.j1 kj2 t497 3 t501 t504 bt512.1 true))) else (laws_FnSecrecy.j1 kj2 t497 3 t501 t504 bt512.1 true)) else (laws_FnSecrecy.j1 kj2 t497 3 t501 t504 bt512.1 true)) else (laws_FnSecrecy.j1 kj2 t497 3 t501 t504 bt512.1 true)))) = some r := H
    have A11 := Aside0.mk A110
    clear A110
    replace H := Option.bind_eq_some_iff.mp H
    obtain ⟨⟨t508, t509⟩, A120, H⟩ := H
    replace H : ((spec_CountSecrets.f kj2 t497 t504 3).bind fun bt512 => (if t505 = 0 then (if t509 = bt512.2 then (if t509 = 0 then ((laws_f6ints.f kj2 t508 bt512.1).bind fun t516 => (if t516 = true then (laws_FnSecrecy.j1 kj2 t497 3 t501 t504 bt512.1 ((bt512.1.length : Int) != t497)) else (laws_FnSecrecy.j1 kj2 t497 3 t501 t504 bt512.1 true))) else (laws_FnSecrecy.j1 kj2 t497 3 t501 t504 bt512.1 true)) else (laws_FnSecrecy.j1 kj2 t497 3 t501 t504 bt512.1 true)) else (laws_FnSecrecy.j1 kj2 t497 3 t501 t504 bt512.1 true))) = some r := H
    have A12 := Aside0.mk A120
    clear A120
    replace H := Option.bind_eq_some_iff.mp H
    obtain ⟨⟨t512, t513⟩, A130, H⟩ := H
    replace H : (if t505 = 0 then (if t509 = t513 then (if t509 = 0 then ((laws_f6ints.f kj2 t508 t512).bind fun t516 => (if t516 = true then (laws_FnSecrecy.j1 kj2 t497 3 t501 t504 t512 ((t512.length : Int) != t497)) else (laws_FnSecrecy.j1 kj2 t497 3 t501 t504 t512 true))) else (laws_FnSecrecy.j1 kj2 t497 3 t501 t504 t512 true)) else (laws_FnSecrecy.j1 kj2 t497 3 t501 t504 t512 true)) else (laws_FnSecrecy.j1 kj2 t497 3 t501 t504 t512 true)) = some r := H
    have A13 := Aside0.mk A130
    clear A130
    have HC14 := Aside0.mk H
    clear H
    go_upto_region 10 with (first | (go_at_call 42; (with_reducible refine (spec_P6Prime.calls _ _ l0 t497 _ ?side1 ?side2 A8.out).mono ?_); (case side1 => repeat (first | exact (Kd.C_below HR0.out HB.out) | (with_reducible refine Kd.C_alloc ?_ _) | (with_reducible refine Kd.C_drewN ?_ _) | (with_reducible refine Kd.C_drew ?_))); (case side2 => exact HC0.out); rintro e w15 ⟨rfl, hb⟩; have n0_ := Aside0.mk (below_step B_ hb); clear HB; have HB := n0_; clear n0_; (try clear hb); (try clear hb2); (try clear hk); (try clear hi)) | (go_at_call 43; (with_reducible refine (spec_P6Curve.calls kj2 _ _ l0 t497 3 t498 _ ?side1 ?side2 A9.out).mono ?_); (case side1 => repeat (first | exact (Kd.C_below HR0.out HB.out) | (with_reducible refine Kd.C_alloc ?_ _) | (with_reducible refine Kd.C_drewN ?_ _) | (with_reducible refine Kd.C_drew ?_))); (case side2 => exact HC0.out); rintro e w16 ⟨v499, rfl, ho0, hb⟩; have n0_ := Aside0.mk (Kd.R_lower ho0 (below_size B_)); have n1_ := Aside0.mk (below_step B_ hb); clear HB; have HO500 := n0_; have HB := n1_; clear n0_ n1_; (try clear hb); (try clear hb2); (try clear hk); (try clear hi); (try clear ho0)) | (go_at_call 44; (with_reducible refine (spec_P6Points.calls kj2 _ _ l1 t497 0 t501 _ ?side1 ?side2 A10.out).mono ?_); (case side1 => repeat (first | exact (Kd.C_below HR1.out HB.out) | (with_reducible refine Kd.C_alloc ?_ _) | (with_reducible refine Kd.C_drewN ?_ _) | (with_reducible refine Kd.C_drew ?_))); (case side2 => exact HC1.out); rintro e w17 ⟨v502, rfl, ho0, hb⟩; have n0_ := Aside0.mk (Kd.R_elder' (by (with_reducible repeat (first | apply Kd.R_alloc | apply Kd.R_drewN | apply Kd.R_drew)); exact HO500.out) (Kd.R_base ho0) hb); have n1_ := Aside0.mk (Kd.R_lower (Kd.R_new' ho0 (Kd.R_lt (by (with_reducible repeat (first | apply Kd.R_alloc | apply Kd.R_drewN | apply Kd.R_drew)); exact HO500.out))) (below_size B_)); have n2_ := Aside0.mk (below_step B_ hb); clear HO500; clear HB; have HO500 := n0_; have HO503 := n1_; have HB := n2_; clear n0_ n1_ n2_; (try clear hb); (try clear hb2); (try clear hk); (try clear hi); (try clear ho0); obtain ⟨Ao18, co18, eo18⟩ := Kd.R_slice HO500.out; subst eo18; obtain ⟨Ao19, co19, eo19⟩ := Kd.R_slice HO503.out; subst eo19) | (go_at_call 50; (with_reducible refine (spec_DealShares.calls kj2 t497 _ _ t498 _ _ t501 t504 t505 _ ?side1 ?side2 ?side3 ?side4 A11.out).mono ?_); (case side1 => repeat (first | exact (Kd.R_reads' HO500.out).2.2 | (with_reducible refine Kd.C_alloc ?_ _) | (with_reducible refine Kd.C_drewN ?_ _) | (with_reducible refine Kd.C_drew ?_))); (case side2 => exact (Kd.R_reads' HO500.out).2.1); (case side3 => repeat (first | exact (Kd.R_reads' HO503.out).2.2 | (with_reducible refine Kd.C_alloc ?_ _) | (with_reducible refine Kd.C_drewN ?_ _) | (with_reducible refine Kd.C_drew ?_))); (case side4 => exact (Kd.R_reads' HO503.out).2.1); rintro e w20 ⟨v506, rfl, ho0, hb⟩; have n0_ := Aside0.mk (Kd.R_below (by (with_reducible repeat (first | apply Kd.R_alloc | apply Kd.R_drewN | apply Kd.R_drew)); exact HO500.out) hb); have n1_ := Aside0.mk (Kd.R_below (by (with_reducible repeat (first | apply Kd.R_alloc | apply Kd.R_drewN | apply Kd.R_drew)); exact HO503.out) hb); have n2_ := Aside0.mk (Kd.R_lower ho0 (below_size B_)); have n3_ := Aside0.mk (below_step B_ hb); clear HO500; clear HO503; clear HB; have HO500 := n0_; have HO503 := n1_; have HO507 := n2_; have HB := n3_; clear n0_ n1_ n2_ n3_; (try clear hb); (try clear hb2); (try clear hk); (try clear hi); (try clear ho0); obtain ⟨Ao21, co21, eo21⟩ := Kd.R_slice HO507.out; subst eo21) | (go_at_call 34; (with_reducible refine (impl_CountSecrets.calls kj2 t497 _ _ t504 3 t508 t509 _ ?side1 ?side2 A12.out).mono ?_); (case side1 => repeat (first | exact (Kd.R_reads' HO507.out).2.2 | (with_reducible refine Kd.C_alloc ?_ _) | (with_reducible refine Kd.C_drewN ?_ _) | (with_reducible refine Kd.C_drew ?_))); (case side2 => exact (Kd.R_reads' HO507.out).2.1); rintro e w22 ⟨v510, rfl, ho0, hb⟩; have n0_ := Aside0.mk (Kd.R_elder' (by (with_reducible repeat (first | apply Kd.R_alloc | apply Kd.R_drewN | apply Kd.R_drew)); exact HO500.out) (Kd.R_base ho0) hb); have n1_ := Aside0.mk (Kd.R_elder' (by (with_reducible repeat (first | apply Kd.R_alloc | apply Kd.R_drewN | apply Kd.R_drew)); exact HO503.out) (Kd.R_base ho0) hb); have n2_ := Aside0.mk (Kd.R_below (by (with_reducible repeat (first | apply Kd.R_alloc | apply Kd.R_drewN | apply Kd.R_drew)); exact HO507.out) hb); have n3_ := Aside0.mk (Kd.R_lower (Kd.R_new' (Kd.R_new' ho0 (Kd.R_lt (by (with_reducible repeat (first | apply Kd.R_alloc | apply Kd.R_drewN | apply Kd.R_drew)); exact HO500.out))) (Kd.R_lt (by (with_reducible repeat (first | apply Kd.R_alloc | apply Kd.R_drewN | apply Kd.R_drew)); exact HO503.out))) (below_size B_)); have n4_ := Aside0.mk (below_step B_ hb); clear HO500; clear HO503; clear HO507; clear HB; have HO500 := n0_; have HO503 := n1_; have HO507 := n2_; have HO511 := n3_; have HB := n4_; clear n0_ n1_ n2_ n3_ n4_; (try clear hb); (try clear hb2); (try clear hk); (try clear hi); (try clear ho0)) | (go_at_call 33; (with_reducible refine (spec_CountSecrets.calls kj2 t497 _ _ t504 3 t512 t513 _ ?side1 ?side2 A13.out).mono ?_); (case side1 => repeat (first | exact (Kd.R_reads' HO507.out).2.2 | (with_reducible refine Kd.C_alloc ?_ _) | (with_reducible refine Kd.C_drewN ?_ _) | (with_reducible refine Kd.C_drew ?_))); (case side2 => exact (Kd.R_reads' HO507.out).2.1); rintro e w23 ⟨v514, rfl, ho0, hb⟩; have n0_ := Aside0.mk (Kd.R_elder' (by (with_reducible repeat (first | apply Kd.R_alloc | apply Kd.R_drewN | apply Kd.R_drew)); exact HO500.out) (Kd.R_base ho0) hb); have n1_ := Aside0.mk (Kd.R_elder' (by (with_reducible repeat (first | apply Kd.R_alloc | apply Kd.R_drewN | apply Kd.R_drew)); exact HO503.out) (Kd.R_base ho0) hb); have n2_ := Aside0.mk (Kd.R_below (by (with_reducible repeat (first | apply Kd.R_alloc | apply Kd.R_drewN | apply Kd.R_drew)); exact HO507.out) hb); have n3_ := Aside0.mk (Kd.R_elder' (by (with_reducible repeat (first | apply Kd.R_alloc | apply Kd.R_drewN | apply Kd.R_drew)); exact HO511.out) (Kd.R_base ho0) hb); have n4_ := Aside0.mk (Kd.R_lower (Kd.R_new' (Kd.R_new' (Kd.R_new' ho0 (Kd.R_lt (by (with_reducible repeat (first | apply Kd.R_alloc | apply Kd.R_drewN | apply Kd.R_drew)); exact HO500.out))) (Kd.R_lt (by (with_reducible repeat (first | apply Kd.R_alloc | apply Kd.R_drewN | apply Kd.R_drew)); exact HO503.out))) (Kd.R_lt (by (with_reducible repeat (first | apply Kd.R_alloc | apply Kd.R_drewN | apply Kd.R_drew)); exact HO511.out))) (below_size B_)); have n5_ := Aside0.mk (below_step B_ hb); clear HO500; clear HO503; clear HO507; clear HO511; clear HB; have HO500 := n0_; have HO503 := n1_; have HO507 := n2_; have HO511 := n3_; have HO515 := n4_; have HB := n5_; clear n0_ n1_ n2_ n3_ n4_ n5_; (try clear hb); (try clear hb2); (try clear hk); (try clear hi); (try clear ho0)))
    repeat (go_quiet (first | (go_at_call 42; (with_reducible refine (spec_P6Prime.calls _ _ l0 t497 _ ?side1 ?side2 A8.out).mono ?_); (case side1 => repeat (first | exact (Kd.C_below HR0.out HB.out) | (with_reducible refine Kd.C_alloc ?_ _) | (with_reducible refine Kd.C_drewN ?_ _) | (with_reducible refine Kd.C_drew ?_))); (case side2 => exact HC0.out); rintro e w15 ⟨rfl, hb⟩; have n0_ := Aside0.mk (below_step B_ hb); clear HB; have HB := n0_; clear n0_; (try clear hb); (try clear hb2); (try clear hk); (try clear hi)) | (go_at_call 43; (with_reducible refine (spec_P6Curve.calls kj2 _ _ l0 t497 3 t498 _ ?side1 ?side2 A9.out).mono ?_); (case side1 => repeat (first | exact (Kd.C_below HR0.out HB.out) | (with_reducible refine Kd.C_alloc ?_ _) | (with_reducible refine Kd.C_drewN ?_ _) | (with_reducible refine Kd.C_drew ?_))); (case side2 => exact HC0.out); rintro e w16 ⟨v499, rfl, ho0, hb⟩; have n0_ := Aside0.mk (Kd.R_lower ho0 (below_size B_)); have n1_ := Aside0.mk (below_step B_ hb); clear HB; have HO500 := n0_; have HB := n1_; clear n0_ n1_; (try clear hb); (try clear hb2); (try clear hk); (try clear hi); (try clear ho0)) | (go_at_call 44; (with_reducible refine (spec_P6Points.calls kj2 _ _ l1 t497 0 t501 _ ?side1 ?side2 A10.out).mono ?_); (case side1 => repeat (first | exact (Kd.C_below HR1.out HB.out) | (with_reducible refine Kd.C_alloc ?_ _) | (with_reducible refine Kd.C_drewN ?_ _) | (with_reducible refine Kd.C_drew ?_))); (case side2 => exact HC1.out); rintro e w17 ⟨v502, rfl, ho0, hb⟩; have n0_ := Aside0.mk (Kd.R_elder' (by (with_reducible repeat (first | apply Kd.R_alloc | apply Kd.R_drewN | apply Kd.R_drew)); exact HO500.out) (Kd.R_base ho0) hb); have n1_ := Aside0.mk (Kd.R_lower (Kd.R_new' ho0 (Kd.R_lt (by (with_reducible repeat (first | apply Kd.R_alloc | apply Kd.R_drewN | apply Kd.R_drew)); exact HO500.out))) (below_size B_)); have n2_ := Aside0.mk (below_step B_ hb); clear HO500; clear HB; have HO500 := n0_; have HO503 := n1_; have HB := n2_; clear n0_ n1_ n2_; (try clear hb); (try clear hb2); (try clear hk); (try clear hi); (try clear ho0); obtain ⟨Ao18, co18, eo18⟩ := Kd.R_slice HO500.out; subst eo18; obtain ⟨Ao19, co19, eo19⟩ := Kd.R_slice HO503.out; subst eo19) | (go_at_call 50; (with_reducible refine (spec_DealShares.calls kj2 t497 _ _ t498 _ _ t501 t504 t505 _ ?side1 ?side2 ?side3 ?side4 A11.out).mono ?_); (case side1 => repeat (first | exact (Kd.R_reads' HO500.out).2.2 | (with_reducible refine Kd.C_alloc ?_ _) | (with_reducible refine Kd.C_drewN ?_ _) | (with_reducible refine Kd.C_drew ?_))); (case side2 => exact (Kd.R_reads' HO500.out).2.1); (case side3 => repeat (first | exact (Kd.R_reads' HO503.out).2.2 | (with_reducible refine Kd.C_alloc ?_ _) | (with_reducible refine Kd.C_drewN ?_ _) | (with_reducible refine Kd.C_drew ?_))); (case side4 => exact (Kd.R_reads' HO503.out).2.1); rintro e w20 ⟨v506, rfl, ho0, hb⟩; have n0_ := Aside0.mk (Kd.R_below (by (with_reducible repeat (first | apply Kd.R_alloc | apply Kd.R_drewN | apply Kd.R_drew)); exact HO500.out) hb); have n1_ := Aside0.mk (Kd.R_below (by (with_reducible repeat (first | apply Kd.R_alloc | apply Kd.R_drewN | apply Kd.R_drew)); exact HO503.out) hb); have n2_ := Aside0.mk (Kd.R_lower ho0 (below_size B_)); have n3_ := Aside0.mk (below_step B_ hb); clear HO500; clear HO503; clear HB; have HO500 := n0_; have HO503 := n1_; have HO507 := n2_; have HB := n3_; clear n0_ n1_ n2_ n3_; (try clear hb); (try clear hb2); (try clear hk); (try clear hi); (try clear ho0); obtain ⟨Ao21, co21, eo21⟩ := Kd.R_slice HO507.out; subst eo21) | (go_at_call 34; (with_reducible refine (impl_CountSecrets.calls kj2 t497 _ _ t504 3 t508 t509 _ ?side1 ?side2 A12.out).mono ?_); (case side1 => repeat (first | exact (Kd.R_reads' HO507.out).2.2 | (with_reducible refine Kd.C_alloc ?_ _) | (with_reducible refine Kd.C_drewN ?_ _) | (with_reducible refine Kd.C_drew ?_))); (case side2 => exact (Kd.R_reads' HO507.out).2.1); rintro e w22 ⟨v510, rfl, ho0, hb⟩; have n0_ := Aside0.mk (Kd.R_elder' (by (with_reducible repeat (first | apply Kd.R_alloc | apply Kd.R_drewN | apply Kd.R_drew)); exact HO500.out) (Kd.R_base ho0) hb); have n1_ := Aside0.mk (Kd.R_elder' (by (with_reducible repeat (first | apply Kd.R_alloc | apply Kd.R_drewN | apply Kd.R_drew)); exact HO503.out) (Kd.R_base ho0) hb); have n2_ := Aside0.mk (Kd.R_below (by (with_reducible repeat (first | apply Kd.R_alloc | apply Kd.R_drewN | apply Kd.R_drew)); exact HO507.out) hb); have n3_ := Aside0.mk (Kd.R_lower (Kd.R_new' (Kd.R_new' ho0 (Kd.R_lt (by (with_reducible repeat (first | apply Kd.R_alloc | apply Kd.R_drewN | apply Kd.R_drew)); exact HO500.out))) (Kd.R_lt (by (with_reducible repeat (first | apply Kd.R_alloc | apply Kd.R_drewN | apply Kd.R_drew)); exact HO503.out))) (below_size B_)); have n4_ := Aside0.mk (below_step B_ hb); clear HO500; clear HO503; clear HO507; clear HB; have HO500 := n0_; have HO503 := n1_; have HO507 := n2_; have HO511 := n3_; have HB := n4_; clear n0_ n1_ n2_ n3_ n4_; (try clear hb); (try clear hb2); (try clear hk); (try clear hi); (try clear ho0)) | (go_at_call 33; (with_reducible refine (spec_CountSecrets.calls kj2 t497 _ _ t504 3 t512 t513 _ ?side1 ?side2 A13.out).mono ?_); (case side1 => repeat (first | exact (Kd.R_reads' HO507.out).2.2 | (with_reducible refine Kd.C_alloc ?_ _) | (with_reducible refine Kd.C_drewN ?_ _) | (with_reducible refine Kd.C_drew ?_))); (case side2 => exact (Kd.R_reads' HO507.out).2.1); rintro e w23 ⟨v514, rfl, ho0, hb⟩; have n0_ := Aside0.mk (Kd.R_elder' (by (with_reducible repeat (first | apply Kd.R_alloc | apply Kd.R_drewN | apply Kd.R_drew)); exact HO500.out) (Kd.R_base ho0) hb); have n1_ := Aside0.mk (Kd.R_elder' (by (with_reducible repeat (first | apply Kd.R_alloc | apply Kd.R_drewN | apply Kd.R_drew)); exact HO503.out) (Kd.R_base ho0) hb); have n2_ := Aside0.mk (Kd.R_below (by (with_reducible repeat (first | apply Kd.R_alloc | apply Kd.R_drewN | apply Kd.R_drew)); exact HO507.out) hb); have n3_ := Aside0.mk (Kd.R_elder' (by (with_reducible repeat (first | apply Kd.R_alloc | apply Kd.R_drewN | apply Kd.R_drew)); exact HO511.out) (Kd.R_base ho0) hb); have n4_ := Aside0.mk (Kd.R_lower (Kd.R_new' (Kd.R_new' (Kd.R_new' ho0 (Kd.R_lt (by (with_reducible repeat (first | apply Kd.R_alloc | apply Kd.R_drewN | apply Kd.R_drew)); exact HO500.out))) (Kd.R_lt (by (with_reducible repeat (first | apply Kd.R_alloc | apply Kd.R_drewN | apply Kd.R_drew)); exact HO503.out))) (Kd.R_lt (by (with_reducible repeat (first | apply Kd.R_alloc | apply Kd.R_drewN | apply Kd.R_drew)); exact HO511.out))) (below_size B_)); have n5_ := Aside0.mk (below_step B_ hb); clear HO500; clear HO503; clear HO507; clear HO511; clear HB; have HO500 := n0_; have HO503 := n1_; have HO507 := n2_; have HO511 := n3_; have HO515 := n4_; have HB := n5_; clear n0_ n1_ n2_ n3_ n4_ n5_; (try clear hb); (try clear hb2); (try clear hk); (try clear hi); (try clear ho0))); go_upto_region 10 with (first | (go_at_call 42; (with_reducible refine (spec_P6Prime.calls _ _ l0 t497 _ ?side1 ?side2 A8.out).mono ?_); (case side1 => repeat (first | exact (Kd.C_below HR0.out HB.out) | (with_reducible refine Kd.C_alloc ?_ _) | (with_reducible refine Kd.C_drewN ?_ _) | (with_reducible refine Kd.C_drew ?_))); (case side2 => exact HC0.out); rintro e w15 ⟨rfl, hb⟩; have n0_ := Aside0.mk (below_step B_ hb); clear HB; have HB := n0_; clear n0_; (try clear hb); (try clear hb2); (try clear hk); (try clear hi)) | (go_at_call 43; (with_reducible refine (spec_P6Curve.calls kj2 _ _ l0 t497 3 t498 _ ?side1 ?side2 A9.out).mono ?_); (case side1 => repeat (first | exact (Kd.C_below HR0.out HB.out) | (with_reducible refine Kd.C_alloc ?_ _) | (with_reducible refine Kd.C_drewN ?_ _) | (with_reducible refine Kd.C_drew ?_))); (case side2 => exact HC0.out); rintro e w16 ⟨v499, rfl, ho0, hb⟩; have n0_ := Aside0.mk (Kd.R_lower ho0 (below_size B_)); have n1_ := Aside0.mk (below_step B_ hb); clear HB; have HO500 := n0_; have HB := n1_; clear n0_ n1_; (try clear hb); (try clear hb2); (try clear hk); (try clear hi); (try clear ho0)) | (go_at_call 44; (with_reducible refine (spec_P6Points.calls kj2 _ _ l1 t497 0 t501 _ ?side1 ?side2 A10.out).mono ?_); (case side1 => repeat (first | exact (Kd.C_below HR1.out HB.out) | (with_reducible refine Kd.C_alloc ?_ _) | (with_reducible refine Kd.C_drewN ?_ _) | (with_reducible refine Kd.C_drew ?_))); (case side2 => exact HC1.out); rintro e w17 ⟨v502, rfl, ho0, hb⟩; have n0_ := Aside0.mk (Kd.R_elder' (by (with_reducible repeat (first | apply Kd.R_alloc | apply Kd.R_drewN | apply Kd.R_drew)); exact HO500.out) (Kd.R_base ho0) hb); have n1_ := Aside0.mk (Kd.R_lower (Kd.R_new' ho0 (Kd.R_lt (by (with_reducible repeat (first | apply Kd.R_alloc | apply Kd.R_drewN | apply Kd.R_drew)); exact HO500.out))) (below_size B_)); have n2_ := Aside0.mk (below_step B_ hb); clear HO500; clear HB; have HO500 := n0_; have HO503 := n1_; have HB := n2_; clear n0_ n1_ n2_; (try clear hb); (try clear hb2); (try clear hk); (try clear hi); (try clear ho0); obtain ⟨Ao18, co18, eo18⟩ := Kd.R_slice HO500.out; subst eo18; obtain ⟨Ao19, co19, eo19⟩ := Kd.R_slice HO503.out; subst eo19) | (go_at_call 50; (with_reducible refine (spec_DealShares.calls kj2 t497 _ _ t498 _ _ t501 t504 t505 _ ?side1 ?side2 ?side3 ?side4 A11.out).mono ?_); (case side1 => repeat (first | exact (Kd.R_reads' HO500.out).2.2 | (with_reducible refine Kd.C_alloc ?_ _) | (with_reducible refine Kd.C_drewN ?_ _) | (with_reducible refine Kd.C_drew ?_))); (case side2 => exact (Kd.R_reads' HO500.out).2.1); (case side3 => repeat (first | exact (Kd.R_reads' HO503.out).2.2 | (with_reducible refine Kd.C_alloc ?_ _) | (with_reducible refine Kd.C_drewN ?_ _) | (with_reducible refine Kd.C_drew ?_))); (case side4 => exact (Kd.R_reads' HO503.out).2.1); rintro e w20 ⟨v506, rfl, ho0, hb⟩; have n0_ := Aside0.mk (Kd.R_below (by (with_reducible repeat (first | apply Kd.R_alloc | apply Kd.R_drewN | apply Kd.R_drew)); exact HO500.out) hb); have n1_ := Aside0.mk (Kd.R_below (by (with_reducible repeat (first | apply Kd.R_alloc | apply Kd.R_drewN | apply Kd.R_drew)); exact HO503.out) hb); have n2_ := Aside0.mk (Kd.R_lower ho0 (below_size B_)); have n3_ := Aside0.mk (below_step B_ hb); clear HO500; clear HO503; clear HB; have HO500 := n0_; have HO503 := n1_; have HO507 := n2_; have HB := n3_; clear n0_ n1_ n2_ n3_; (try clear hb); (try clear hb2); (try clear hk); (try clear hi); (try clear ho0); obtain ⟨Ao21, co21, eo21⟩ := Kd.R_slice HO507.out; subst eo21) | (go_at_call 34; (with_reducible refine (impl_CountSecrets.calls kj2 t497 _ _ t504 3 t508 t509 _ ?side1 ?side2 A12.out).mono ?_); (case side1 => repeat (first | exact (Kd.R_reads' HO507.out).2.2 | (with_reducible refine Kd.C_alloc ?_ _) | (with_reducible refine Kd.C_drewN ?_ _) | (with_reducible refine Kd.C_drew ?_))); (case side2 => exact (Kd.R_reads' HO507.out).2.1); rintro e w22 ⟨v510, rfl, ho0, hb⟩; have n0_ := Aside0.mk (Kd.R_elder' (by (with_reducible repeat (first | apply Kd.R_alloc | apply Kd.R_drewN | apply Kd.R_drew)); exact HO500.out) (Kd.R_base ho0) hb); have n1_ := Aside0.mk (Kd.R_elder' (by (with_reducible repeat (first | apply Kd.R_alloc | apply Kd.R_drewN | apply Kd.R_drew)); exact HO503.out) (Kd.R_base ho0) hb); have n2_ := Aside0.mk (Kd.R_below (by (with_reducible repeat (first | apply Kd.R_alloc | apply Kd.R_drewN | apply Kd.R_drew)); exact HO507.out) hb); have n3_ := Aside0.mk (Kd.R_lower (Kd.R_new' (Kd.R_new' ho0 (Kd.R_lt (by (with_reducible repeat (first | apply Kd.R_alloc | apply Kd.R_drewN | apply Kd.R_drew)); exact HO500.out))) (Kd.R_lt (by (with_reducible repeat (first | apply Kd.R_alloc | apply Kd.R_drewN | apply Kd.R_drew)); exact HO503.out))) (below_size B_)); have n4_ := Aside0.mk (below_step B_ hb); clear HO500; clear HO503; clear HO507; clear HB; have HO500 := n0_; have HO503 := n1_; have HO507 := n2_; have HO511 := n3_; have HB := n4_; clear n0_ n1_ n2_ n3_ n4_; (try clear hb); (try clear hb2); (try clear hk); (try clear hi); (try clear ho0)) | (go_at_call 33; (with_reducible refine (spec_CountSecrets.calls kj2 t497 _ _ t504 3 t512 t513 _ ?side1 ?side2 A13.out).mono ?_); (case side1 => repeat (first | exact (Kd.R_reads' HO507.out).2.2 | (with_reducible refine Kd.C_alloc ?_ _) | (with_reducible refine Kd.C_drewN ?_ _) | (with_reducible refine Kd.C_drew ?_))); (case side2 => exact (Kd.R_reads' HO507.out).2.1); rintro e w23 ⟨v514, rfl, ho0, hb⟩; have n0_ := Aside0.mk (Kd.R_elder' (by (with_reducible repeat (first | apply Kd.R_alloc | apply Kd.R_drewN | apply Kd.R_drew)); exact HO500.out) (Kd.R_base ho0) hb); have n1_ := Aside0.mk (Kd.R_elder' (by (with_reducible repeat (first | apply Kd.R_alloc | apply Kd.R_drewN | apply Kd.R_drew)); exact HO503.out) (Kd.R_base ho0) hb); have n2_ := Aside0.mk (Kd.R_below (by (with_reducible repeat (first | apply Kd.R_alloc | apply Kd.R_drewN | apply Kd.R_drew)); exact HO507.out) hb); have n3_ := Aside0.mk (Kd.R_elder' (by (with_reducible repeat (first | apply Kd.R_alloc | apply Kd.R_drewN | apply Kd.R_drew)); exact HO511.out) (Kd.R_base ho0) hb); have n4_ := Aside0.mk (Kd.R_lower (Kd.R_new' (Kd.R_new' (Kd.R_new' ho0 (Kd.R_lt (by (with_reducible repeat (first | apply Kd.R_alloc | apply Kd.R_drewN | apply Kd.R_drew)); exact HO500.out))) (Kd.R_lt (by (with_reducible repeat (first | apply Kd.R_alloc | apply Kd.R_drewN | apply Kd.R_drew)); exact HO503.out))) (Kd.R_lt (by (with_reducible repeat (first | apply Kd.R_alloc | apply Kd.R_drewN | apply Kd.R_drew)); exact HO511.out))) (below_size B_)); have n5_ := Aside0.mk (below_step B_ hb); clear HO500; clear HO503; clear HO507; clear HO511; clear HB; have HO500 := n0_; have HO503 := n1_; have HO507 := n2_; have HO511 := n3_; have HO515 := n4_; have HB := n5_; clear n0_ n1_ n2_ n3_ n4_ n5_; (try clear hb); (try clear hb2); (try clear hk); (try clear hi); (try clear ho0))))
    (try simp only [Act.put, List.setIfInBounds_toArray, List.set_cons_zero, List.set_cons_succ])
    go_cut [79] (fun v79 wc => ∃ (kq : Nat) (x79_13 : Bool), v79 = .bool x79_13 ∧ Aside0 (laws_FnSecrecy.j1 kq t497 3 t501 t504 t512 x79_13 = some r) ∧ Aside0 (kq ≤ kj2) ∧ Aside0 (Kd.R (Kd.int .i64) 2 wc w.heap.size (fun k_ => some k_ ≠ (v514 : Value).ownBlock) (.slice Ao19 t501.length co19) t501) ∧ Aside0 (Kd.R k68 68 wc w.heap.size (fun _ => True) (.slice Ao21 t504.length co21) t504) ∧ Aside0 (Kd.R (Kd.int .i64) 2 wc w.heap.size (fun k_ => some k_ ≠ ((.slice Ao19 t501.length co19) : Value).ownBlock) v514 t512) ∧ Aside0 (Below w.heap.size w wc))
    case first =>
     have H := HC14.out
     clear HC14
     by_cases c24 : t505 = 0
     ·rw [if_pos c24] at H
      have c24b0 : (t505 == 0) = true := beq_iff_eq.mpr c24
      have c24b1 : (t505 != 0) = false := bne_eq_false_iff_eq.mpr c24
      clear c24
      (first | rw [c24b0] | (simp only [i64_w, i32_w]; rw [c24b0]) | skip)
      by_cases c25 : t509 = t513
      ·rw [if_pos c25] at H
       have c25b0 : (t509 == t513) = true := beq_iff_eq.mpr c25
       have c25b1 : (t509 != t513) = false := bne_eq_false_iff_eq.mpr c25
       clear c25
       by_cases c26 : t509 = 0
       ·rw [if_pos c26] at H
        have c26b0 : (t509 == 0) = true := beq_iff_eq.mpr c26
        have c26b1 : (t509 != 0) = false := bne_eq_false_iff_eq.mpr c26
        clear c26
        replace H := Option.bind_eq_some_iff.mp H
        obtain ⟨t516, A270, H⟩ := H
        replace H : (if t516 = true then (laws_FnSecrecy.j1 kj2 t497 3 t501 t504 t512 ((t512.length : Int) != t497)) else (laws_FnSecrecy.j1 kj2 t497 3 t501 t504 t512 true)) = some r := H
        have A27 := Aside0.mk A270
        clear A270
        by_cases c28 : t516 = true
        ·subst c28
         have H1 : (laws_FnSecrecy.j1 kj2 t497 3 t501 t504 t512 ((t512.length : Int) != t497)) = some r := by rw [if_pos rfl] at H; exact H
         clear H
         have H := H1
         clear H1
         have H' := Aside0.mk H
         clear H
         obtain ⟨Ao29, co29, eo29⟩ := Kd.R_slice HO511.out
         subst eo29
         obtain ⟨Ao30, co30, eo30⟩ := Kd.R_slice HO515.out
         subst eo30
         go_wp2_with (first | (go_at_call 49; (with_reducible refine (laws_f6ints.calls kj2 _ _ t508 _ _ t512 true _ ?side1 ?side2 ?side3 ?side4 A27.out).mono ?_); (case side1 => repeat (first | exact (Kd.R_reads' HO511.out).2.2 | (with_reducible refine Kd.C_alloc ?_ _) | (with_reducible refine Kd.C_drewN ?_ _) | (with_reducible refine Kd.C_drew ?_))); (case side2 => exact (Kd.R_reads' HO511.out).2.1); (case side3 => repeat (first | exact (Kd.R_reads' HO515.out).2.2 | (with_reducible refine Kd.C_alloc ?_ _) | (with_reducible refine Kd.C_drewN ?_ _) | (with_reducible refine Kd.C_drew ?_))); (case side4 => exact (Kd.R_reads' HO515.out).2.1); rintro e w' ⟨rfl, ⟨nd, rfl⟩⟩; (try first | exact ⟨rfl, _, World.drewN_drewN _ _ _⟩ | exact ⟨rfl, _, Eq.trans (World.drewN_drewN _ _ _) (congrArg (World.drewN _) (Nat.add_assoc _ _ _))⟩)))
         repeat (go_quiet (first | (go_at_call 49; (with_reducible refine (laws_f6ints.calls kj2 _ _ t508 _ _ t512 true _ ?side1 ?side2 ?side3 ?side4 A27.out).mono ?_); (case side1 => repeat (first | exact (Kd.R_reads' HO511.out).2.2 | (with_reducible refine Kd.C_alloc ?_ _) | (with_reducible refine Kd.C_drewN ?_ _) | (with_reducible refine Kd.C_drew ?_))); (case side2 => exact (Kd.R_reads' HO511.out).2.1); (case side3 => repeat (first | exact (Kd.R_reads' HO515.out).2.2 | (with_reducible refine Kd.C_alloc ?_ _) | (with_reducible refine Kd.C_drewN ?_ _) | (with_reducible refine Kd.C_drew ?_))); (case side4 => exact (Kd.R_reads' HO515.out).2.1); rintro e w' ⟨rfl, ⟨nd, rfl⟩⟩; (try first | exact ⟨rfl, _, World.drewN_drewN _ _ _⟩ | exact ⟨rfl, _, Eq.trans (World.drewN_drewN _ _ _) (congrArg (World.drewN _) (Nat.add_assoc _ _ _))⟩))); try go_wp2_with (first | (go_at_call 49; (with_reducible refine (laws_f6ints.calls kj2 _ _ t508 _ _ t512 true _ ?side1 ?side2 ?side3 ?side4 A27.out).mono ?_); (case side1 => repeat (first | exact (Kd.R_reads' HO511.out).2.2 | (with_reducible refine Kd.C_alloc ?_ _) | (with_reducible refine Kd.C_drewN ?_ _) | (with_reducible refine Kd.C_drew ?_))); (case side2 => exact (Kd.R_reads' HO511.out).2.1); (case side3 => repeat (first | exact (Kd.R_reads' HO515.out).2.2 | (with_reducible refine Kd.C_alloc ?_ _) | (with_reducible refine Kd.C_drewN ?_ _) | (with_reducible refine Kd.C_drew ?_))); (case side4 => exact (Kd.R_reads' HO515.out).2.1); rintro e w' ⟨rfl, ⟨nd, rfl⟩⟩; (try first | exact ⟨rfl, _, World.drewN_drewN _ _ _⟩ | exact ⟨rfl, _, Eq.trans (World.drewN_drewN _ _ _) (congrArg (World.drewN _) (Nat.add_assoc _ _ _))⟩))))
         go_meet
         case rel => exact ⟨_, (((t512.length : Int) != t497)), R_, H', ⟨by have := HJ2.out; first | omega | exact Nat.le_refl _⟩, ⟨by (with_reducible repeat (first | apply Kd.R_alloc | apply Kd.R_drewN | apply Kd.R_drew)); exact Kd.R_mono HO503.out (fun _ hk => hk.2)⟩, ⟨by (with_reducible repeat (first | apply Kd.R_alloc | apply Kd.R_drewN | apply Kd.R_drew)); exact HO507.out⟩, ⟨by (with_reducible repeat (first | apply Kd.R_alloc | apply Kd.R_drewN | apply Kd.R_drew)); exact Kd.R_mono HO515.out (fun _ hk => hk.1.2)⟩, ⟨B_⟩⟩
        ·replace c28 := Bool.eq_false_iff.mpr c28
         subst c28
         have H1 : (laws_FnSecrecy.j1 kj2 t497 3 t501 t504 t512 true) = some r := by rw [if_neg (show ¬ (false = true) by decide)] at H; exact H
         clear H
         have H := H1
         clear H1
         have H' := Aside0.mk H
         clear H
         obtain ⟨Ao31, co31, eo31⟩ := Kd.R_slice HO511.out
         subst eo31
         obtain ⟨Ao32, co32, eo32⟩ := Kd.R_slice HO515.out
         subst eo32
         go_wp2_with (first | (go_at_call 49; (with_reducible refine (laws_f6ints.calls kj2 _ _ t508 _ _ t512 false _ ?side1 ?side2 ?side3 ?side4 A27.out).mono ?_); (case side1 => repeat (first | exact (Kd.R_reads' HO511.out).2.2 | (with_reducible refine Kd.C_alloc ?_ _) | (with_reducible refine Kd.C_drewN ?_ _) | (with_reducible refine Kd.C_drew ?_))); (case side2 => exact (Kd.R_reads' HO511.out).2.1); (case side3 => repeat (first | exact (Kd.R_reads' HO515.out).2.2 | (with_reducible refine Kd.C_alloc ?_ _) | (with_reducible refine Kd.C_drewN ?_ _) | (with_reducible refine Kd.C_drew ?_))); (case side4 => exact (Kd.R_reads' HO515.out).2.1); rintro e w' ⟨rfl, ⟨nd, rfl⟩⟩; (try first | exact ⟨rfl, _, World.drewN_drewN _ _ _⟩ | exact ⟨rfl, _, Eq.trans (World.drewN_drewN _ _ _) (congrArg (World.drewN _) (Nat.add_assoc _ _ _))⟩)))
         repeat (go_quiet (first | (go_at_call 49; (with_reducible refine (laws_f6ints.calls kj2 _ _ t508 _ _ t512 false _ ?side1 ?side2 ?side3 ?side4 A27.out).mono ?_); (case side1 => repeat (first | exact (Kd.R_reads' HO511.out).2.2 | (with_reducible refine Kd.C_alloc ?_ _) | (with_reducible refine Kd.C_drewN ?_ _) | (with_reducible refine Kd.C_drew ?_))); (case side2 => exact (Kd.R_reads' HO511.out).2.1); (case side3 => repeat (first | exact (Kd.R_reads' HO515.out).2.2 | (with_reducible refine Kd.C_alloc ?_ _) | (with_reducible refine Kd.C_drewN ?_ _) | (with_reducible refine Kd.C_drew ?_))); (case side4 => exact (Kd.R_reads' HO515.out).2.1); rintro e w' ⟨rfl, ⟨nd, rfl⟩⟩; (try first | exact ⟨rfl, _, World.drewN_drewN _ _ _⟩ | exact ⟨rfl, _, Eq.trans (World.drewN_drewN _ _ _) (congrArg (World.drewN _) (Nat.add_assoc _ _ _))⟩))); try go_wp2_with (first | (go_at_call 49; (with_reducible refine (laws_f6ints.calls kj2 _ _ t508 _ _ t512 false _ ?side1 ?side2 ?side3 ?side4 A27.out).mono ?_); (case side1 => repeat (first | exact (Kd.R_reads' HO511.out).2.2 | (with_reducible refine Kd.C_alloc ?_ _) | (with_reducible refine Kd.C_drewN ?_ _) | (with_reducible refine Kd.C_drew ?_))); (case side2 => exact (Kd.R_reads' HO511.out).2.1); (case side3 => repeat (first | exact (Kd.R_reads' HO515.out).2.2 | (with_reducible refine Kd.C_alloc ?_ _) | (with_reducible refine Kd.C_drewN ?_ _) | (with_reducible refine Kd.C_drew ?_))); (case side4 => exact (Kd.R_reads' HO515.out).2.1); rintro e w' ⟨rfl, ⟨nd, rfl⟩⟩; (try first | exact ⟨rfl, _, World.drewN_drewN _ _ _⟩ | exact ⟨rfl, _, Eq.trans (World.drewN_drewN _ _ _) (congrArg (World.drewN _) (Nat.add_assoc _ _ _))⟩))))
         go_meet
         case rel => exact ⟨_, (true), R_, H', ⟨by have := HJ2.out; first | omega | exact Nat.le_refl _⟩, ⟨by (with_reducible repeat (first | apply Kd.R_alloc | apply Kd.R_drewN | apply Kd.R_drew)); exact Kd.R_mono HO503.out (fun _ hk => hk.2)⟩, ⟨by (with_reducible repeat (first | apply Kd.R_alloc | apply Kd.R_drewN | apply Kd.R_drew)); exact HO507.out⟩, ⟨by (with_reducible repeat (first | apply Kd.R_alloc | apply Kd.R_drewN | apply Kd.R_drew)); exact Kd.R_mono HO515.out (fun _ hk => hk.1.2)⟩, ⟨B_⟩⟩
       ·rw [if_neg c26] at H
        have c26b0 : (t509 == 0) = false := beq_eq_false_iff_ne.mpr c26
        have c26b1 : (t509 != 0) = true := bne_iff_ne.mpr c26
        have H' := Aside0.mk H
        clear H
        go_wp2
        repeat (go_quiet (fail); try go_wp2)
        go_meet
        case rel => exact ⟨_, (true), R_, H', ⟨by have := HJ2.out; first | omega | exact Nat.le_refl _⟩, ⟨by (with_reducible repeat (first | apply Kd.R_alloc | apply Kd.R_drewN | apply Kd.R_drew)); exact Kd.R_mono HO503.out (fun _ hk => hk.2)⟩, ⟨by (with_reducible repeat (first | apply Kd.R_alloc | apply Kd.R_drewN | apply Kd.R_drew)); exact HO507.out⟩, ⟨by (with_reducible repeat (first | apply Kd.R_alloc | apply Kd.R_drewN | apply Kd.R_drew)); exact Kd.R_mono HO515.out (fun _ hk => hk.1.2)⟩, ⟨B_⟩⟩
      ·rw [if_neg c25] at H
       have c25b0 : (t509 == t513) = false := beq_eq_false_iff_ne.mpr c25
       have c25b1 : (t509 != t513) = true := bne_iff_ne.mpr c25
       have H' := Aside0.mk H
       clear H
       go_wp2
       repeat (go_quiet (fail); try go_wp2)
       go_meet
       case rel => exact ⟨_, (true), R_, H', ⟨by have := HJ2.out; first | omega | exact Nat.le_refl _⟩, ⟨by (with_reducible repeat (first | apply Kd.R_alloc | apply Kd.R_drewN | apply Kd.R_drew)); exact Kd.R_mono HO503.out (fun _ hk => hk.2)⟩, ⟨by (with_reducible repeat (first | apply Kd.R_alloc | apply Kd.R_drewN | apply Kd.R_drew)); exact HO507.out⟩, ⟨by (with_reducible repeat (first | apply Kd.R_alloc | apply Kd.R_drewN | apply Kd.R_drew)); exact Kd.R_mono HO515.out (fun _ hk => hk.1.2)⟩, ⟨B_⟩⟩
     ·rw [if_neg c24] at H
      have c24b0 : (t505 == 0) = false := beq_eq_false_iff_ne.mpr c24
      have c24b1 : (t505 != 0) = true := bne_iff_ne.mpr c24
      (first | rw [c24b0] | (simp only [i64_w, i32_w]; rw [c24b0]) | skip)
      have H' := Aside0.mk H
      clear H
      go_wp2
      repeat (go_quiet (fail); try go_wp2)
      go_meet
      case rel => exact ⟨_, (true), R_, H', ⟨by have := HJ2.out; first | omega | exact Nat.le_refl _⟩, ⟨by (with_reducible repeat (first | apply Kd.R_alloc | apply Kd.R_drewN | apply Kd.R_drew)); exact Kd.R_mono HO503.out (fun _ hk => hk.2)⟩, ⟨by (with_reducible repeat (first | apply Kd.R_alloc | apply Kd.R_drewN | apply Kd.R_drew)); exact HO507.out⟩, ⟨by (with_reducible repeat (first | apply Kd.R_alloc | apply Kd.R_drewN | apply Kd.R_drew)); exact Kd.R_mono HO515.out (fun _ hk => hk.1.2)⟩, ⟨B_⟩⟩
    case rest =>
     clear HC14
     try clear c1
     try clear c2
     try clear p2
     try clear c5
     try clear c7
     try clear c13
     try clear c24
     try clear c24b0
     try clear c24b1
     try clear c25
     try clear c25b0
     try clear c25b1
     try clear c26
     try clear c26b0
     try clear c26b1
     try clear c28
     try clear p2
     obtain ⟨kq, x79_13, rfl, HA, HJ13, HO_8, HO_9, HO_13, HB⟩ := hcut
     cases kq with
     | zero => exact absurd HA.out (by simp [laws_FnSecrecy.j1])
     | succ kj13 =>
      have H := HA.out
      clear HA
      simp only [laws_FnSecrecy.j1] at H
      by_cases c33 : x79_13 = true
      ·subst c33
       have H1 : (some false) = some r := by rw [if_pos rfl] at H; exact H
       clear H
       have H := H1
       clear H1
       obtain rfl := Option.some.inj H
       go_wp2
       repeat (go_quiet (fail); try go_wp2)
       go_ret
       exact ⟨by first | rfl | (simp [errW_none, errW_some] <;> rfl) | (simp [*, errW_none, errW_some] <;> rfl), B_⟩
      ·replace c33 := Bool.eq_false_iff.mpr c33
       subst c33
       have H1 : (laws_FnSecrecy.l0 kj13 t497 3 t504 t512 (t501.length : Int) 0 0) = some r := by rw [if_neg (show ¬ (false = true) by decide)] at H; exact H
       clear H
       have H := H1
       clear H1
       have H' := Aside0.mk H
       clear H
       go_wp2
       repeat (go_quiet (fail); try go_wp2)
       go_loopg [16, 17] kj13 (fun kq v16 v17 w' => ∃ (x16_3 : Int) (x17_3 : Int), v16 = .int .i64 x16_3 ∧ v17 = .int .i64 x17_3 ∧ Aside0 (laws_FnSecrecy.l0 kq t497 3 t504 t512 (t501.length : Int) x16_3 x17_3 = some r) ∧ Aside0 (kq ≤ kj13) ∧ Aside0 (Kd.R k68 68 w' w.heap.size (fun _ => True) (.slice Ao21 t504.length co21) t504) ∧ Aside0 (Kd.R (Kd.int .i64) 2 w' w.heap.size (fun _ => True) v514 t512) ∧ Aside0 (Below w.heap.size w w'))
       case atStart => exact ⟨(0), (0), R_, R_, H', ⟨Nat.le_refl _⟩, ⟨by (with_reducible repeat (first | apply Kd.R_alloc | apply Kd.R_drewN | apply Kd.R_drew)); exact HO_9.out⟩, ⟨by (with_reducible repeat (first | apply Kd.R_alloc | apply Kd.R_drewN | apply Kd.R_drew)); exact Kd.R_mono HO_13.out (fun _ hk => trivial)⟩, ⟨B_⟩⟩
       case round =>
        clear H'
        try clear c1
        try clear c2
        try clear p2
        try clear c3
        try clear c5
        try clear c7
        try clear c13
        try clear c24
        try clear c24b0
        try clear c24b1
        try clear c25
        try clear c25b0
        try clear c25b1
        try clear c26
        try clear c26b0
        try clear c26b1
        try clear c28
        try clear c33
        try clear p2
        obtain ⟨x16_3, x17_3, rfl, rfl, HA, HK3, HO_9, HO_13, HB⟩ := hrel
        cases gk with
        | zero => exact absurd HA.out (by simp [laws_FnSecrecy.l0])
        | succ k3 =>
         have H := HA.out
         clear HA
         simp only [laws_FnSecrecy.l0] at H
         by_cases c34 : x17_3 < t497
         ·rw [if_pos c34] at H
          have c34b0 : decide (x17_3 < t497) = true := decide_eq_true c34
          clear c34
          by_cases c35 : (t501.length : Int) ≤ 3
          ·rw [if_pos c35] at H
           have c35b0 : decide ((t501.length : Int) ≤ 3) = true := decide_eq_true c35
           have c35b1 : decide (t501.length ≤ 3) = true := decide_eq_true (by omega)
           clear c35
           by_cases c36 : 0 ≤ x17_3
           ·rw [if_pos c36] at H
            have c36b0 : decide (0 ≤ x17_3) = true := decide_eq_true c36
            clear c36
            by_cases c37 : x17_3 < (t512.length : Int)
            ·rw [if_pos c37] at H
             have c37b0 : decide (x17_3 < (t512.length : Int)) = true := decide_eq_true c37
             clear c37
             by_cases c38 : 0 < (t512.length : Int)
             ·rw [if_pos c38] at H
              have c38b0 : decide (0 < (t512.length : Int)) = true := decide_eq_true c38
              have c38b1 : decide (0 < t512.length) = true := decide_eq_true (by omega)
              clear c38
              by_cases c39 : (rd t512 x17_3) = (rd t512 0)
              ·rw [if_pos c39] at H
               have c39b0 : ((rd t512 x17_3) == (rd t512 0)) = true := beq_iff_eq.mpr c39
               have c39b1 : ((rd t512 x17_3) != (rd t512 0)) = false := bne_eq_false_iff_eq.mpr c39
               clear c39
               have H' := Aside0.mk H
               clear H
               obtain ⟨Ao40, co40, eo40⟩ := Kd.R_slice HO_13.out
               subst eo40
               have p517 : 0 ≤ (x17_3 : Int) := A1_
               have q517 : x17_3 < (t512.length : Int) := A1_
               obtain ⟨ad517, e517, hx517_0⟩ := Kd.at_int (Kd.R_reads' HO_13.out).2.2 x17_3 p517 q517
               cases e517
               replace p517 := eq_true p517
               replace q517 := eq_true q517
               have p518 : 0 ≤ (0 : Int) := (by omega)
               have q518 : 0 < (t512.length : Int) := A1_
               obtain ⟨ad518, e518, hx518_0⟩ := Kd.at_int (Kd.R_reads' HO_13.out).2.2 0 p518 q518
               obtain rfl : ad517 = ad518 := (by injection e518)
               have qi518 : (0 < t512.length) = True := eq_true (by omega)
               (try rw [show ((0 : Int)).toNat = 0 from rfl] at hx518_0)
               (try rw [Addr.add_zero'] at hx518_0)
               replace p518 := eq_true p518
               replace q518 := eq_true q518
               have p519 : 0 ≤ (x17_3 : Int) := A1_
               have q519 : x17_3 < (t512.length : Int) := A1_
               obtain ⟨ad519, e519, hx519_0⟩ := Kd.at_int (Kd.R_reads' HO_13.out).2.2 x17_3 p519 q519
               obtain rfl : ad517 = ad519 := (by injection e519)
               replace p519 := eq_true p519
               replace q519 := eq_true q519
               go_wp2
               repeat (go_quiet (fail); try go_wp2)
               go_roundg k3
               case measure => have := HJ2.out; have := HJ13.out; have := HK3.out; omega
               case rel => exact ⟨(wrap64 (x16_3 + (rd t512 x17_3))), (wrap64 (x17_3 + 1)), R_, R_, H', ⟨by have := HJ2.out; have := HJ13.out; have := HK3.out; omega⟩, ⟨by (with_reducible repeat (first | apply Kd.R_alloc | apply Kd.R_drewN | apply Kd.R_drew)); exact HO_9.out⟩, ⟨by (with_reducible repeat (first | apply Kd.R_alloc | apply Kd.R_drewN | apply Kd.R_drew)); exact HO_13.out⟩, ⟨B_⟩⟩
              ·rw [if_neg c39] at H
               have c39b0 : ((rd t512 x17_3) == (rd t512 0)) = false := beq_eq_false_iff_ne.mpr c39
               have c39b1 : ((rd t512 x17_3) != (rd t512 0)) = true := bne_iff_ne.mpr c39
               obtain rfl := Option.some.inj H
               obtain ⟨Ao41, co41, eo41⟩ := Kd.R_slice HO_13.out
               subst eo41
               have p517 : 0 ≤ (x17_3 : Int) := A1_
               have q517 : x17_3 < (t512.length : Int) := A1_
               obtain ⟨ad517, e517, hx517_0⟩ := Kd.at_int (Kd.R_reads' HO_13.out).2.2 x17_3 p517 q517
               cases e517
               replace p517 := eq_true p517
               replace q517 := eq_true q517
               have p518 : 0 ≤ (0 : Int) := (by omega)
               have q518 : 0 < (t512.length : Int) := A1_
               obtain ⟨ad518, e518, hx518_0⟩ := Kd.at_int (Kd.R_reads' HO_13.out).2.2 0 p518 q518
               obtain rfl : ad517 = ad518 := (by injection e518)
               have qi518 : (0 < t512.length) = True := eq_true (by omega)
               (try rw [show ((0 : Int)).toNat = 0 from rfl] at hx518_0)
               (try rw [Addr.add_zero'] at hx518_0)
               replace p518 := eq_true p518
               replace q518 := eq_true q518
               go_wp2
               repeat (go_quiet (fail); try go_wp2)
               go_ret
               exact ⟨by first | rfl | (simp [errW_none, errW_some] <;> rfl) | (simp [*, errW_none, errW_some] <;> rfl), B_⟩
             ·rw [if_neg c38] at H
              exact absurd H (by simp)
            ·rw [if_neg c37] at H
             exact absurd H (by simp)
           ·rw [if_neg c36] at H
            exact absurd H (by simp)
          ·rw [if_neg c35] at H
           have c35b0 : decide ((t501.length : Int) ≤ 3) = false := decide_eq_false c35
           have c35b1 : decide (t501.length ≤ 3) = false := decide_eq_false (by omega)
           clear c35
           by_cases c42 : 0 ≤ x17_3
           ·rw [if_pos c42] at H
            have c42b0 : decide (0 ≤ x17_3) = true := decide_eq_true c42
            clear c42
            by_cases c43 : x17_3 < (t512.length : Int)
            ·rw [if_pos c43] at H
             have c43b0 : decide (x17_3 < (t512.length : Int)) = true := decide_eq_true c43
             clear c43
             have H' := Aside0.mk H
             clear H
             obtain ⟨Ao44, co44, eo44⟩ := Kd.R_slice HO_13.out
             subst eo44
             have p520 : 0 ≤ (x17_3 : Int) := A1_
             have q520 : x17_3 < (t512.length : Int) := A1_
             obtain ⟨ad520, e520, hx520_0⟩ := Kd.at_int (Kd.R_reads' HO_13.out).2.2 x17_3 p520 q520
             cases e520
             replace p520 := eq_true p520
             replace q520 := eq_true q520
             go_wp2
             repeat (go_quiet (fail); try go_wp2)
             go_roundg k3
             case measure => have := HJ2.out; have := HJ13.out; have := HK3.out; omega
             case rel => exact ⟨(wrap64 (x16_3 + (rd t512 x17_3))), (wrap64 (x17_3 + 1)), R_, R_, H', ⟨by have := HJ2.out; have := HJ13.out; have := HK3.out; omega⟩, ⟨by (with_reducible repeat (first | apply Kd.R_alloc | apply Kd.R_drewN | apply Kd.R_drew)); exact HO_9.out⟩, ⟨by (with_reducible repeat (first | apply Kd.R_alloc | apply Kd.R_drewN | apply Kd.R_drew)); exact HO_13.out⟩, ⟨B_⟩⟩
            ·rw [if_neg c43] at H
             exact absurd H (by simp)
           ·rw [if_neg c42] at H
            exact absurd H (by simp)
         ·rw [if_neg c34] at H
          have c34b0 : decide (x17_3 < t497) = false := decide_eq_false c34
          clear c34
          have H' := Aside0.mk H
          clear H
          go_wp2
          repeat (go_quiet (fail); try go_wp2)
          go_loopg [18, 19] k3 (fun kq v18 v19 w' => ∃ (x18_4 : Int) (x19_4 : Int), v18 = .int .i64 x18_4 ∧ v19 = .int .i64 x19_4 ∧ Aside0 (laws_FnSecrecy.l1 kq t497 3 t504 t512 (t501.length : Int) x16_3 x18_4 x19_4 = some r) ∧ Aside0 (kq ≤ k3) ∧ Aside0 (Kd.R k68 68 w' w.heap.size (fun _ => True) (.slice Ao21 t504.length co21) t504) ∧ Aside0 (Kd.R (Kd.int .i64) 2 w' w.heap.size (fun _ => True) v514 t512) ∧ Aside0 (Below w.heap.size w w'))
          case atStart => exact ⟨(1), ((t501.length : Int)), R_, R_, H', ⟨Nat.le_refl _⟩, ⟨by (with_reducible repeat (first | apply Kd.R_alloc | apply Kd.R_drewN | apply Kd.R_drew)); exact HO_9.out⟩, ⟨by (with_reducible repeat (first | apply Kd.R_alloc | apply Kd.R_drewN | apply Kd.R_drew)); exact HO_13.out⟩, ⟨B_⟩⟩
          case round =>
           clear H'
           try clear c1
           try clear c2
           try clear p2
           try clear c3
           try clear c4
           try clear c5
           try clear p5
           try clear q5
           try clear hx5
           try clear qi5
           try clear p6
           try clear c7
           try clear c13
           try clear c24
           try clear c24b0
           try clear c24b1
           try clear c25
           try clear c25b0
           try clear c25b1
           try clear c26
           try clear c26b0
           try clear c26b1
           try clear c28
           try clear c33
           try clear c34
           try clear c34b0
           try clear c35
           try clear c35b0
           try clear c35b1
           try clear c36
           try clear c36b0
           try clear c37
           try clear c37b0
           try clear c38
           try clear c38b0
           try clear c38b1
           try clear c39
           try clear c39b0
           try clear c39b1
           try clear c42
           try clear c42b0
           try clear c43
           try clear c43b0
           try clear hx517_0
           try clear hx518_0
           try clear hx519_0
           try clear hx520_0
           try clear p2
           try clear p517
           try clear p518
           try clear p519
           try clear p520
           try clear q517
           try clear q518
           try clear q519
           try clear q520
           obtain ⟨x18_4, x19_4, rfl, rfl, HA, HK4, HO_9, HO_13, HB⟩ := hrel
           cases gk with
           | zero => exact absurd HA.out (by simp [laws_FnSecrecy.l1])
           | succ k4 =>
            have H := HA.out
            clear HA
            simp only [laws_FnSecrecy.l1] at H
            by_cases c45 : x19_4 ≤ 3
            ·rw [if_pos c45] at H
             have c45b0 : decide (x19_4 ≤ 3) = true := decide_eq_true c45
             clear c45
             have H' := Aside0.mk H
             clear H
             go_wp2
             repeat (go_quiet (fail); try go_wp2)
             go_roundg k4
             case measure => have := HJ2.out; have := HJ13.out; have := HK3.out; have := HK4.out; omega
             case rel => exact ⟨(wrap64 (x18_4 * t497)), (wrap64 (x19_4 + 1)), R_, R_, H', ⟨by have := HJ2.out; have := HJ13.out; have := HK3.out; have := HK4.out; omega⟩, ⟨by (with_reducible repeat (first | apply Kd.R_alloc | apply Kd.R_drewN | apply Kd.R_drew)); exact HO_9.out⟩, ⟨by (with_reducible repeat (first | apply Kd.R_alloc | apply Kd.R_drewN | apply Kd.R_drew)); exact HO_13.out⟩, ⟨B_⟩⟩
            ·rw [if_neg c45] at H
             have c45b0 : decide (x19_4 ≤ 3) = false := decide_eq_false c45
             clear c45
             by_cases c46 : x16_3 = x18_4
             ·rw [if_pos c46] at H
              have c46b0 : (x16_3 == x18_4) = true := beq_iff_eq.mpr c46
              have c46b1 : (x16_3 != x18_4) = false := bne_eq_false_iff_eq.mpr c46
              clear c46
              by_cases c47 : (t501.length : Int) ≤ 3
              ·rw [if_pos c47] at H
               have c47b0 : decide ((t501.length : Int) ≤ 3) = true := decide_eq_true c47
               have c47b1 : decide (t501.length ≤ 3) = true := decide_eq_true (by omega)
               clear c47
               obtain rfl := Option.some.inj H
               go_wp2
               repeat (go_quiet (fail); try go_wp2)
               go_ret
               exact ⟨by first | rfl | (simp [errW_none, errW_some] <;> rfl) | (simp [*, errW_none, errW_some] <;> rfl), B_⟩
              ·rw [if_neg c47] at H
               have c47b0 : decide ((t501.length : Int) ≤ 3) = false := decide_eq_false c47
               have c47b1 : decide (t501.length ≤ 3) = false := decide_eq_false (by omega)
               clear c47
               replace H := Option.bind_eq_some_iff.mp H
               obtain ⟨⟨t521, t522⟩, A480, H⟩ := H
               replace H : (if t522 = 0 then (if t521 ≥ 0 then (if t521 < t497 then (if 0 ≤ t521 then (if t521 < (t512.length : Int) then (some ((rd t512 t521) == 1)) else (none)) else (none)) else (some false)) else (some false)) else (some false)) = some r := H
               have A48 := Aside0.mk A480
               clear A480
               by_cases c49 : t522 = 0
               ·rw [if_pos c49] at H
                have c49b0 : (t522 == 0) = true := beq_iff_eq.mpr c49
                have c49b1 : (t522 != 0) = false := bne_eq_false_iff_eq.mpr c49
                clear c49
                by_cases c50 : t521 ≥ 0
                ·rw [if_pos c50] at H
                 have c50b0 : decide (0 ≤ t521) = true := decide_eq_true c50
                 clear c50
                 by_cases c51 : t521 < t497
                 ·rw [if_pos c51] at H
                  have c51b0 : decide (t521 < t497) = true := decide_eq_true c51
                  clear c51
                  by_cases c52 : 0 ≤ t521
                  ·rw [if_pos c52] at H
                   have c52b0 : decide (0 ≤ t521) = true := decide_eq_true c52
                   clear c52
                   by_cases c53 : t521 < (t512.length : Int)
                   ·rw [if_pos c53] at H
                    have c53b0 : decide (t521 < (t512.length : Int)) = true := decide_eq_true c53
                    clear c53
                    obtain rfl := Option.some.inj H
                    go_wp2_with (first | (go_at_call 63; (with_reducible refine (impl_OpenAt.calls k4 t497 _ _ t504 0 t521 t522 _ ?side1 ?side2 A48.out).mono ?_); (case side1 => repeat (first | exact (Kd.R_reads' HO_9.out).2.2 | (with_reducible refine Kd.C_alloc ?_ _) | (with_reducible refine Kd.C_drewN ?_ _) | (with_reducible refine Kd.C_drew ?_))); (case side2 => exact (Kd.R_reads' HO_9.out).2.1); rintro e w54 ⟨rfl, hb⟩; have n0_ := Aside0.mk (Kd.R_below (by (with_reducible repeat (first | apply Kd.R_alloc | apply Kd.R_drewN | apply Kd.R_drew)); exact HO_9.out) hb); have n1_ := Aside0.mk (Kd.R_below (by (with_reducible repeat (first | apply Kd.R_alloc | apply Kd.R_drewN | apply Kd.R_drew)); exact HO_13.out) hb); have n2_ := Aside0.mk (below_step B_ hb); clear HO_9; clear HO_13; clear HB; have HO_9 := n0_; have HO_13 := n1_; have HB := n2_; clear n0_ n1_ n2_; (try clear hb); (try clear hb2); (try clear hk); (try clear hi); obtain ⟨Ao55, co55, eo55⟩ := Kd.R_slice HO_13.out; subst eo55; have p523 : 0 ≤ (t521 : Int) := A1_; have q523 : t521 < (t512.length : Int) := A1_; obtain ⟨ad523, e523, hx523_0⟩ := Kd.at_int (Kd.R_reads' HO_13.out).2.2 t521 p523 q523; cases e523; replace p523 := eq_true p523; replace q523 := eq_true q523))
                    repeat (go_quiet (first | (go_at_call 63; (with_reducible refine (impl_OpenAt.calls k4 t497 _ _ t504 0 t521 t522 _ ?side1 ?side2 A48.out).mono ?_); (case side1 => repeat (first | exact (Kd.R_reads' HO_9.out).2.2 | (with_reducible refine Kd.C_alloc ?_ _) | (with_reducible refine Kd.C_drewN ?_ _) | (with_reducible refine Kd.C_drew ?_))); (case side2 => exact (Kd.R_reads' HO_9.out).2.1); rintro e w54 ⟨rfl, hb⟩; have n0_ := Aside0.mk (Kd.R_below (by (with_reducible repeat (first | apply Kd.R_alloc | apply Kd.R_drewN | apply Kd.R_drew)); exact HO_9.out) hb); have n1_ := Aside0.mk (Kd.R_below (by (with_reducible repeat (first | apply Kd.R_alloc | apply Kd.R_drewN | apply Kd.R_drew)); exact HO_13.out) hb); have n2_ := Aside0.mk (below_step B_ hb); clear HO_9; clear HO_13; clear HB; have HO_9 := n0_; have HO_13 := n1_; have HB := n2_; clear n0_ n1_ n2_; (try clear hb); (try clear hb2); (try clear hk); (try clear hi); obtain ⟨Ao55, co55, eo55⟩ := Kd.R_slice HO_13.out; subst eo55; have p523 : 0 ≤ (t521 : Int) := A1_; have q523 : t521 < (t512.length : Int) := A1_; obtain ⟨ad523, e523, hx523_0⟩ := Kd.at_int (Kd.R_reads' HO_13.out).2.2 t521 p523 q523; cases e523; replace p523 := eq_true p523; replace q523 := eq_true q523)); try go_wp2_with (first | (go_at_call 63; (with_reducible refine (impl_OpenAt.calls k4 t497 _ _ t504 0 t521 t522 _ ?side1 ?side2 A48.out).mono ?_); (case side1 => repeat (first | exact (Kd.R_reads' HO_9.out).2.2 | (with_reducible refine Kd.C_alloc ?_ _) | (with_reducible refine Kd.C_drewN ?_ _) | (with_reducible refine Kd.C_drew ?_))); (case side2 => exact (Kd.R_reads' HO_9.out).2.1); rintro e w54 ⟨rfl, hb⟩; have n0_ := Aside0.mk (Kd.R_below (by (with_reducible repeat (first | apply Kd.R_alloc | apply Kd.R_drewN | apply Kd.R_drew)); exact HO_9.out) hb); have n1_ := Aside0.mk (Kd.R_below (by (with_reducible repeat (first | apply Kd.R_alloc | apply Kd.R_drewN | apply Kd.R_drew)); exact HO_13.out) hb); have n2_ := Aside0.mk (below_step B_ hb); clear HO_9; clear HO_13; clear HB; have HO_9 := n0_; have HO_13 := n1_; have HB := n2_; clear n0_ n1_ n2_; (try clear hb); (try clear hb2); (try clear hk); (try clear hi); obtain ⟨Ao55, co55, eo55⟩ := Kd.R_slice HO_13.out; subst eo55; have p523 : 0 ≤ (t521 : Int) := A1_; have q523 : t521 < (t512.length : Int) := A1_; obtain ⟨ad523, e523, hx523_0⟩ := Kd.at_int (Kd.R_reads' HO_13.out).2.2 t521 p523 q523; cases e523; replace p523 := eq_true p523; replace q523 := eq_true q523)))
                    go_ret
                    exact ⟨by first | rfl | (simp [errW_none, errW_some] <;> rfl) | (simp [*, errW_none, errW_some] <;> rfl), B_⟩
                   ·rw [if_neg c53] at H
                    exact absurd H (by simp)
                  ·rw [if_neg c52] at H
                   exact absurd H (by simp)
                 ·rw [if_neg c51] at H
                  have c51b0 : decide (t521 < t497) = false := decide_eq_false c51
                  clear c51
                  obtain rfl := Option.some.inj H
                  go_wp2_with (first | (go_at_call 63; (with_reducible refine (impl_OpenAt.calls k4 t497 _ _ t504 0 t521 t522 _ ?side1 ?side2 A48.out).mono ?_); (case side1 => repeat (first | exact (Kd.R_reads' HO_9.out).2.2 | (with_reducible refine Kd.C_alloc ?_ _) | (with_reducible refine Kd.C_drewN ?_ _) | (with_reducible refine Kd.C_drew ?_))); (case side2 => exact (Kd.R_reads' HO_9.out).2.1); rintro e w56 ⟨rfl, hb⟩; have n0_ := Aside0.mk (Kd.R_below (by (with_reducible repeat (first | apply Kd.R_alloc | apply Kd.R_drewN | apply Kd.R_drew)); exact HO_9.out) hb); have n1_ := Aside0.mk (Kd.R_below (by (with_reducible repeat (first | apply Kd.R_alloc | apply Kd.R_drewN | apply Kd.R_drew)); exact HO_13.out) hb); have n2_ := Aside0.mk (below_step B_ hb); clear HO_9; clear HO_13; clear HB; have HO_9 := n0_; have HO_13 := n1_; have HB := n2_; clear n0_ n1_ n2_; (try clear hb); (try clear hb2); (try clear hk); (try clear hi)))
                  repeat (go_quiet (first | (go_at_call 63; (with_reducible refine (impl_OpenAt.calls k4 t497 _ _ t504 0 t521 t522 _ ?side1 ?side2 A48.out).mono ?_); (case side1 => repeat (first | exact (Kd.R_reads' HO_9.out).2.2 | (with_reducible refine Kd.C_alloc ?_ _) | (with_reducible refine Kd.C_drewN ?_ _) | (with_reducible refine Kd.C_drew ?_))); (case side2 => exact (Kd.R_reads' HO_9.out).2.1); rintro e w56 ⟨rfl, hb⟩; have n0_ := Aside0.mk (Kd.R_below (by (with_reducible repeat (first | apply Kd.R_alloc | apply Kd.R_drewN | apply Kd.R_drew)); exact HO_9.out) hb); have n1_ := Aside0.mk (Kd.R_below (by (with_reducible repeat (first | apply Kd.R_alloc | apply Kd.R_drewN | apply Kd.R_drew)); exact HO_13.out) hb); have n2_ := Aside0.mk (below_step B_ hb); clear HO_9; clear HO_13; clear HB; have HO_9 := n0_; have HO_13 := n1_; have HB := n2_; clear n0_ n1_ n2_; (try clear hb); (try clear hb2); (try clear hk); (try clear hi))); try go_wp2_with (first | (go_at_call 63; (with_reducible refine (impl_OpenAt.calls k4 t497 _ _ t504 0 t521 t522 _ ?side1 ?side2 A48.out).mono ?_); (case side1 => repeat (first | exact (Kd.R_reads' HO_9.out).2.2 | (with_reducible refine Kd.C_alloc ?_ _) | (with_reducible refine Kd.C_drewN ?_ _) | (with_reducible refine Kd.C_drew ?_))); (case side2 => exact (Kd.R_reads' HO_9.out).2.1); rintro e w56 ⟨rfl, hb⟩; have n0_ := Aside0.mk (Kd.R_below (by (with_reducible repeat (first | apply Kd.R_alloc | apply Kd.R_drewN | apply Kd.R_drew)); exact HO_9.out) hb); have n1_ := Aside0.mk (Kd.R_below (by (with_reducible repeat (first | apply Kd.R_alloc | apply Kd.R_drewN | apply Kd.R_drew)); exact HO_13.out) hb); have n2_ := Aside0.mk (below_step B_ hb); clear HO_9; clear HO_13; clear HB; have HO_9 := n0_; have HO_13 := n1_; have HB := n2_; clear n0_ n1_ n2_; (try clear hb); (try clear hb2); (try clear hk); (try clear hi))))
                  go_ret
                  exact ⟨by first | rfl | (simp [errW_none, errW_some] <;> rfl) | (simp [*, errW_none, errW_some] <;> rfl), B_⟩
                ·rw [if_neg c50] at H
                 have c50b0 : decide (0 ≤ t521) = false := decide_eq_false c50
                 clear c50
                 obtain rfl := Option.some.inj H
                 go_wp2_with (first | (go_at_call 63; (with_reducible refine (impl_OpenAt.calls k4 t497 _ _ t504 0 t521 t522 _ ?side1 ?side2 A48.out).mono ?_); (case side1 => repeat (first | exact (Kd.R_reads' HO_9.out).2.2 | (with_reducible refine Kd.C_alloc ?_ _) | (with_reducible refine Kd.C_drewN ?_ _) | (with_reducible refine Kd.C_drew ?_))); (case side2 => exact (Kd.R_reads' HO_9.out).2.1); rintro e w57 ⟨rfl, hb⟩; have n0_ := Aside0.mk (Kd.R_below (by (with_reducible repeat (first | apply Kd.R_alloc | apply Kd.R_drewN | apply Kd.R_drew)); exact HO_9.out) hb); have n1_ := Aside0.mk (Kd.R_below (by (with_reducible repeat (first | apply Kd.R_alloc | apply Kd.R_drewN | apply Kd.R_drew)); exact HO_13.out) hb); have n2_ := Aside0.mk (below_step B_ hb); clear HO_9; clear HO_13; clear HB; have HO_9 := n0_; have HO_13 := n1_; have HB := n2_; clear n0_ n1_ n2_; (try clear hb); (try clear hb2); (try clear hk); (try clear hi)))
                 repeat (go_quiet (first | (go_at_call 63; (with_reducible refine (impl_OpenAt.calls k4 t497 _ _ t504 0 t521 t522 _ ?side1 ?side2 A48.out).mono ?_); (case side1 => repeat (first | exact (Kd.R_reads' HO_9.out).2.2 | (with_reducible refine Kd.C_alloc ?_ _) | (with_reducible refine Kd.C_drewN ?_ _) | (with_reducible refine Kd.C_drew ?_))); (case side2 => exact (Kd.R_reads' HO_9.out).2.1); rintro e w57 ⟨rfl, hb⟩; have n0_ := Aside0.mk (Kd.R_below (by (with_reducible repeat (first | apply Kd.R_alloc | apply Kd.R_drewN | apply Kd.R_drew)); exact HO_9.out) hb); have n1_ := Aside0.mk (Kd.R_below (by (with_reducible repeat (first | apply Kd.R_alloc | apply Kd.R_drewN | apply Kd.R_drew)); exact HO_13.out) hb); have n2_ := Aside0.mk (below_step B_ hb); clear HO_9; clear HO_13; clear HB; have HO_9 := n0_; have HO_13 := n1_; have HB := n2_; clear n0_ n1_ n2_; (try clear hb); (try clear hb2); (try clear hk); (try clear hi))); try go_wp2_with (first | (go_at_call 63; (with_reducible refine (impl_OpenAt.calls k4 t497 _ _ t504 0 t521 t522 _ ?side1 ?side2 A48.out).mono ?_); (case side1 => repeat (first | exact (Kd.R_reads' HO_9.out).2.2 | (with_reducible refine Kd.C_alloc ?_ _) | (with_reducible refine Kd.C_drewN ?_ _) | (with_reducible refine Kd.C_drew ?_))); (case side2 => exact (Kd.R_reads' HO_9.out).2.1); rintro e w57 ⟨rfl, hb⟩; have n0_ := Aside0.mk (Kd.R_below (by (with_reducible repeat (first | apply Kd.R_alloc | apply Kd.R_drewN | apply Kd.R_drew)); exact HO_9.out) hb); have n1_ := Aside0.mk (Kd.R_below (by (with_reducible repeat (first | apply Kd.R_alloc | apply Kd.R_drewN | apply Kd.R_drew)); exact HO_13.out) hb); have n2_ := Aside0.mk (below_step B_ hb); clear HO_9; clear HO_13; clear HB; have HO_9 := n0_; have HO_13 := n1_; have HB := n2_; clear n0_ n1_ n2_; (try clear hb); (try clear hb2); (try clear hk); (try clear hi))))
                 go_ret
                 exact ⟨by first | rfl | (simp [errW_none, errW_some] <;> rfl) | (simp [*, errW_none, errW_some] <;> rfl), B_⟩
               ·rw [if_neg c49] at H
                have c49b0 : (t522 == 0) = false := beq_eq_false_iff_ne.mpr c49
                have c49b1 : (t522 != 0) = true := bne_iff_ne.mpr c49
                obtain rfl := Option.some.inj H
                go_wp2_with (first | (go_at_call 63; (with_reducible refine (impl_OpenAt.calls k4 t497 _ _ t504 0 t521 t522 _ ?side1 ?side2 A48.out).mono ?_); (case side1 => repeat (first | exact (Kd.R_reads' HO_9.out).2.2 | (with_reducible refine Kd.C_alloc ?_ _) | (with_reducible refine Kd.C_drewN ?_ _) | (with_reducible refine Kd.C_drew ?_))); (case side2 => exact (Kd.R_reads' HO_9.out).2.1); rintro e w58 ⟨rfl, hb⟩; have n0_ := Aside0.mk (Kd.R_below (by (with_reducible repeat (first | apply Kd.R_alloc | apply Kd.R_drewN | apply Kd.R_drew)); exact HO_9.out) hb); have n1_ := Aside0.mk (Kd.R_below (by (with_reducible repeat (first | apply Kd.R_alloc | apply Kd.R_drewN | apply Kd.R_drew)); exact HO_13.out) hb); have n2_ := Aside0.mk (below_step B_ hb); clear HO_9; clear HO_13; clear HB; have HO_9 := n0_; have HO_13 := n1_; have HB := n2_; clear n0_ n1_ n2_; (try clear hb); (try clear hb2); (try clear hk); (try clear hi)))
                repeat (go_quiet (first | (go_at_call 63; (with_reducible refine (impl_OpenAt.calls k4 t497 _ _ t504 0 t521 t522 _ ?side1 ?side2 A48.out).mono ?_); (case side1 => repeat (first | exact (Kd.R_reads' HO_9.out).2.2 | (with_reducible refine Kd.C_alloc ?_ _) | (with_reducible refine Kd.C_drewN ?_ _) | (with_reducible refine Kd.C_drew ?_))); (case side2 => exact (Kd.R_reads' HO_9.out).2.1); rintro e w58 ⟨rfl, hb⟩; have n0_ := Aside0.mk (Kd.R_below (by (with_reducible repeat (first | apply Kd.R_alloc | apply Kd.R_drewN | apply Kd.R_drew)); exact HO_9.out) hb); have n1_ := Aside0.mk (Kd.R_below (by (with_reducible repeat (first | apply Kd.R_alloc | apply Kd.R_drewN | apply Kd.R_drew)); exact HO_13.out) hb); have n2_ := Aside0.mk (below_step B_ hb); clear HO_9; clear HO_13; clear HB; have HO_9 := n0_; have HO_13 := n1_; have HB := n2_; clear n0_ n1_ n2_; (try clear hb); (try clear hb2); (try clear hk); (try clear hi))); try go_wp2_with (first | (go_at_call 63; (with_reducible refine (impl_OpenAt.calls k4 t497 _ _ t504 0 t521 t522 _ ?side1 ?side2 A48.out).mono ?_); (case side1 => repeat (first | exact (Kd.R_reads' HO_9.out).2.2 | (with_reducible refine Kd.C_alloc ?_ _) | (with_reducible refine Kd.C_drewN ?_ _) | (with_reducible refine Kd.C_drew ?_))); (case side2 => exact (Kd.R_reads' HO_9.out).2.1); rintro e w58 ⟨rfl, hb⟩; have n0_ := Aside0.mk (Kd.R_below (by (with_reducible repeat (first | apply Kd.R_alloc | apply Kd.R_drewN | apply Kd.R_drew)); exact HO_9.out) hb); have n1_ := Aside0.mk (Kd.R_below (by (with_reducible repeat (first | apply Kd.R_alloc | apply Kd.R_drewN | apply Kd.R_drew)); exact HO_13.out) hb); have n2_ := Aside0.mk (below_step B_ hb); clear HO_9; clear HO_13; clear HB; have HO_9 := n0_; have HO_13 := n1_; have HB := n2_; clear n0_ n1_ n2_; (try clear hb); (try clear hb2); (try clear hk); (try clear hi))))
                go_ret
                exact ⟨by first | rfl | (simp [errW_none, errW_some] <;> rfl) | (simp [*, errW_none, errW_some] <;> rfl), B_⟩
             ·rw [if_neg c46] at H
              have c46b0 : (x16_3 == x18_4) = false := beq_eq_false_iff_ne.mpr c46
              have c46b1 : (x16_3 != x18_4) = true := bne_iff_ne.mpr c46
              obtain rfl := Option.some.inj H
              go_wp2
              repeat (go_quiet (fail); try go_wp2)
              go_ret
              exact ⟨by first | rfl | (simp [errW_none, errW_some] <;> rfl) | (simp [*, errW_none, errW_some] <;> rfl), B_⟩

/-- THE ONE PURE STATEMENT of laws_FnSecrecy: yours. -/
def laws_FnSecrecy.Pure : Prop := ∀ (l0 : List Int) (l1 : List Int), l0.length ≤ maxLen → l0.length * 1 ≤ 140737488351232 → (∀ x ∈ l0, (Lit.int .u8 x).wf = true) → l1.length ≤ maxLen → l1.length * 1 ≤ 140737488351232 → (∀ x ∈ l1, (Lit.int .u8 x).wf = true) → ∃ k, laws_FnSecrecy.f k l0 l1 = some true
theorem laws_FnSecrecy.walk (P : laws_FnSecrecy.Pure) (a0 : Option Addr) (len0 cap0 : Nat) (z0 : List Int) (a1 : Option Addr) (len1 cap1 : Nat) (z1 : List Int) (w : World) (w0 : (a0 = none ∧ len0 = 0 ∧ cap0 = 0 ∧ z0 = []) ∨ ∃ x, a0 = some x ∧ len0 ≤ cap0 ∧ cap0 ≤ maxLen ∧ z0.length = cap0 ∧ (∀ i, i < z0.length → w.cell? (x.add i) = some (.int .u8 (z0.getD i 0))) ∧ ∀ n ∈ z0, (Lit.int .u8 n).wf = true) (y0 : len0 * 1 ≤ 140737488351232) (w1 : (a1 = none ∧ len1 = 0 ∧ cap1 = 0 ∧ z1 = []) ∨ ∃ x, a1 = some x ∧ len1 ≤ cap1 ∧ cap1 ≤ maxLen ∧ z1.length = cap1 ∧ (∀ i, i < z1.length → w.cell? (x.add i) = some (.int .u8 (z1.getD i 0))) ∧ ∀ n ∈ z1, (Lit.int .u8 n).wf = true) (y1 : len1 * 1 ≤ 140737488351232) :
  Calls Try.prog 13 #[.slice a0 len0 cap0, .slice a1 len1 cap1] w fun e w' => e = .returned (.bool true) ∧ Below w.heap.size w w' := by
 obtain ⟨l0, rfl, hr0, hm0, hw0, hc0⟩ := ReadsInt.ofRowC w0
 obtain ⟨l1, rfl, hr1, hm1, hw1, hc1⟩ := ReadsInt.ofRowC w1
 obtain ⟨k, h⟩ := P l0 l1 hm0 y0 hw0 hm1 y1 hw1
 refine (laws_FnSecrecy.calls k _ _ l0 _ _ l1 true w (Kd.C_of_reads (d := (0 : Int)) (h1 := fun _ => rfl) hr0) hc0 (Kd.C_of_reads (d := (0 : Int)) (h1 := fun _ => rfl) hr1) hc1 h).mono ?_
 rintro e w' ⟨rfl, hd⟩
 exact ⟨rfl, hd⟩

end Go.Proofs.Ytonpikcbmgmchaa.PFnSecrecy
