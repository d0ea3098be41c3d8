-- By xprint.py and given.py (wip/gen): the kit's print of this seat, some functions' contracts given.
import Derived.Test.YtemdeeepamnbcaaRows
import Derived.Test.YtemdeeepamnbcaaPFnExactJoinEnrolledx4
import Derived.Test.YtemdeeepamnbcaaPureFnExactJoinEnrolled
import Derived.Test.YtemdeeepamnbcaaO
import Derived.WalkKit
import Derived.ProofKit
import Derived.OpenShut
import Derived.ShutString
import Derived.ChangeOld
import Derived.Below
import Derived.SizedLaws
namespace Go.Proofs.Ytemdeeepamnbcaa.fnExactJoinEnrolled
open Go.ChangeShapes Go.WideShapes Go.ChangeAt Go.RowKit Go.Proofs.Ytemdeeepamnbcaa.PFnExactJoinEnrolled Go.Proofs.YtemdeeepamnbcaaW.PrintWords
open Go.ChangeMaps (open_string shut_string)
set_option linter.unusedVariables false
theorem own : ownKnob Try.prog.godebug = none := by kernel_rfl
theorem laidOut : laidOutB Try.prog = true := by kernel_rfl
set_option maxRecDepth 100000 in
theorem lifted (os : Os) (started : os.Started) (H : Type) (enc : TypeId × Value → H) :
    ReturnsInHanded {} Try.checked os 7 .any (Rows.fnExactJoinEnrolledSpec.pre6 enc Try.prog Try.f7 Rows.fnExactJoinEnrolledRow.domain false) (Rows.fnExactJoinEnrolledSpec.post enc Try.prog Try.f7 false true false false) := by
  refine returnsInHanded_of_change_sized (C := Try.checked) own started (by kernel_rfl) Try.func7
    (ChangeSpec.witness6 (enc := enc) (C := Try.checked) false ⟨#[], #[.int .i64 0, .slice none 0 0], []⟩ 8 (by kernel_rfl) (by kernel_rfl) (by kernel_rfl) (by kernel_rfl)) ?_
  intro W base args ds gs before hval0 hW hcnd hsz0 _
  have hsz : (DataW.weightsEach Try.prog (Try.f7.params.toList ++ Rows.fnExactJoinEnrolledSpec.plain.varTypes Try.prog) (ds ++ gs)).all (· ≤ reachBytes) = true := hsz0
  have hval : ∀ (j : Nat) t v, Try.f7.params[j]? = some t → args[j]? = some v → Value.okWide Try.prog W .any base t v := hval0
  have hW' := hW
  obtain ⟨p, q, hA0, hV, rfl, hfz, hnd⟩ := hW
  have hA : DataW.TrodAll enc Try.prog W 0 (fun _ => true) true Try.f7.params.toList args.toList ds p := hA0
  rw [Try.params7] at hA hval hsz
  obtain ⟨v0, vs0, d0, ds0, p0, q0, hargs, rfl, rfl, h0, r0⟩ := trodAll_cons hA
  obtain ⟨v1, vs1, d1, ds1, p1, q1, rfl, rfl, rfl, h1, r1⟩ := trodAll_cons r0
  obtain ⟨rfl, rfl, rfl⟩ := trodAll_nil r1
  obtain rfl : args = #[v0, v1] := by cases args; simp_all
  obtain ⟨rfl, rfl⟩ := trodVars_none hV
  have z1 := O.Sz.of hsz (j := 1) (t := 40) rfl rfl
  obtain ⟨a0, rfl, rfl, rfl, w0⟩ := open_int Try.underlying2 (hval 0 2 v0 rfl rfl) h0
  have k1 := h1
  have lt1 : ∀ x ∈ p1, x.block < W.heap.size := by obtain ⟨m, hm⟩ := k1; exact DataW.trod_lt m _ _ _ hm
  obtain ⟨A1, len1, c1, rfl⟩ := okWide_slice Try.underlying40 (hval 1 40 v1 rfl rfl)
  obtain ⟨l1, rfl, hr1, hc1, hm1, hb1, hw1⟩ := O.Opens.arg (O.Opens.slice (B := 24) Try.underlying40 (by kernel_rfl) (by kernel_rfl) (O.Opens.slice (B := 8) Try.underlying22 (by kernel_rfl) (by kernel_rfl) (O.Opens.int Try.underlying2))) h1 z1
  clear hA0 hval0 hsz0 hsz
  obtain ⟨k, hP⟩ := Pure.FnExactJoinEnrolled a0 l1 w0 hm1 hb1 hw1
  refine Calls.mono (show Calls Try.prog 7 #[.int .i64 a0, .slice A1 l1.length c1] W _ from PFnExactJoinEnrolled.laws_FnExactJoinEnrolled.calls k a0 _ _ l1 true W hr1 hc1 hP) fun e W' he_ => ?_
  obtain ⟨rfl, hd⟩ := he_
  have bel : Below W.heap.size W W' := hd
  exact ⟨_, rfl, _, _, _, [], _, [], hW', trodAll_mk1 (shut_bool Try.underlying4 _), (trodAll_cons_mk (shut_int Try.underlying2 w0) (trodAll_cons_mk (Below.trod laidOut (by kernel_rfl) (of_decide_eq_true (by kernel_rfl)) k1 bel lt1) trodAll_mk0)), rfl, bel.frame _, fun h => by cases h⟩
theorem over : Rows.fnExactJoinEnrolledRow.holds Try.pinned (OpenSpec.ofChange Rows.fnExactJoinEnrolledSpec) :=
  OpenClaim.holds_of_wide 7 Try.f7 rfl rfl rfl rfl rfl rfl rfl ⟨rfl, rfl, rfl, rfl, rfl⟩ rfl rfl rfl rfl rfl (by kernel_rfl) Try.func7 (by kernel_rfl)
    (of_decide_eq_true (by kernel_rfl)) (by unfold Func.isWrapper; first | (rw [if_pos (by decide +kernel)]; kernel_rfl) | (rw [if_neg (by decide +kernel)]; exact ⟨rfl, rfl⟩))
    (fun os started H enc _ => lifted os started H enc)
theorem proved : Rows.FnExactJoinEnrolledSaid := over
#print axioms proved
end Go.Proofs.Ytemdeeepamnbcaa.fnExactJoinEnrolled
namespace Go.Proofs.Ytemdeeepamnbcaa
/-- The row, under a short name, for the claim. -/
theorem fnExactJoinEnrolled_holds : Rows.FnExactJoinEnrolledSaid := fnExactJoinEnrolled.proved
end Go.Proofs.Ytemdeeepamnbcaa
