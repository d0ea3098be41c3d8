/- The law's walk, put under the given statement. -/
import Derived.Test.YticobjbjejpomaaRows
import Derived.Test.YticobjbjejpomaaZF27
import Derived.Test.YticobjbjejpomaaZO
import Derived.WalkKit
import Derived.ProofKit
import Derived.OpenShut
import Derived.ShutString
import Derived.ChangeOld
import Derived.Below
import Derived.SizedLaws
namespace Go.Proofs.Yticobjbjejpomaa.fnExactSchemeOfFamily
open Go.ChangeShapes Go.WideShapes Go.ChangeAt Go.RowKit Go.Proofs.Yticobjbjejpomaa.VC
open Go.ChangeMaps (open_string shut_string)
set_option linter.unusedVariables false
theorem own : ownKnob Try.prog.godebug = none := by kernel_rfl
theorem laidOut : laidOutB Try.prog = true := by kernel_rfl
set_option maxRecDepth 100000 in
theorem lifted (os : Os) (started : os.Started) (H : Type) (enc : TypeId × Value → H) :
    ReturnsInHanded {} Try.checked os 11 .any (Rows.fnExactSchemeOfFamilySpec.pre6 enc Try.prog Try.f11 Rows.fnExactSchemeOfFamilyRow.domain false) (Rows.fnExactSchemeOfFamilySpec.post enc Try.prog Try.f11 false true false false) := by
  refine returnsInHanded_of_change_sized (C := Try.checked) own started (by kernel_rfl) Try.func11
    (ChangeSpec.witness6 (enc := enc) (C := Try.checked) false ⟨#[], #[.int .i64 0, .agg #[.int .i64 0, .slice none 0 0]], []⟩ 8 (by kernel_rfl) (by kernel_rfl) (by kernel_rfl) (by kernel_rfl)) ?_
  intro W base args ds gs before hval0 hW hcnd hsz0 _
  have hval : ∀ (j : Nat) t v, Try.f11.params[j]? = some t → args[j]? = some v → Value.okWide Try.prog W .any base t v := hval0
  have hW' := hW
  obtain ⟨p, q, hA0, hV, rfl, hfz, hnd⟩ := hW
  have hA : DataW.TrodAll enc Try.prog W 0 (fun _ => true) true Try.f11.params.toList args.toList ds p := hA0
  rw [Try.params11] at hA hval
  obtain ⟨v0, vs0, d0, ds0, p0, q0, hargs, rfl, rfl, h0, r0⟩ := trodAll_cons hA
  obtain ⟨v1, vs1, d1, ds1, p1, q1, rfl, rfl, rfl, h1, r1⟩ := trodAll_cons r0
  obtain ⟨rfl, rfl, rfl⟩ := trodAll_nil r1
  obtain rfl : args = #[v0, v1] := by cases args; simp_all
  obtain ⟨rfl, rfl⟩ := trodVars_none hV
  obtain ⟨a0, rfl, rfl, rfl, w0⟩ := open_int Try.underlying2 (hval 0 2 v0 rfl rfl) h0
  have k1 := h1
  have lt1 : ∀ x ∈ p1, x.block < W.heap.size := by obtain ⟨m, hm⟩ := k1; exact DataW.trod_lt m _ _ _ hm
  obtain ⟨cs1, rfl, hz1⟩ := okWide_struct Try.underlying67 (hval 1 67 v1 rfl rfl)
  obtain ⟨m1, hf1⟩ := h1
  obtain ⟨cs1⟩ := cs1
  clear hz1
  obtain ⟨⟨a1_0, l1_1⟩, ⟨_, _, rfl, rfl, ⟨u1_1, rfl, hr1_1⟩⟩, ⟨hw1_0, hw1_1⟩⟩ := (Opens.struct (HH := Hp.start W) Try.underlying67 (by kernel_rfl) (OpensF.cons rfl (by kernel_rfl) (Opens.int Try.underlying2) (OpensF.last rfl (by kernel_rfl) (Opens.slice Try.underlying23 (by kernel_rfl) (Opens.slice Try.underlying22 (by kernel_rfl) (Opens.int Try.underlying2)))))) _ _ _ (show DataW.trod enc Try.prog W 0 (fun _ => true) true m1 67 cs1 = some (d1, p1) from hf1)
  clear hA0 hval0 hsz0
  refine Calls.mono (show Calls Try.prog 11 #[.int .i64 a0, .agg #[.int .i64 a1_0, u1_1]] W _ from (law_SchemeOfFamily a0 a1_0 hr1_1 (Nat.le_refl _)) W (sat_start W)) fun e W' he_ => ?_
  obtain ⟨r, H', rfl, hs, rfl, _⟩ := he_
  have bel : Below W.heap.size W W' := hs.below
  exact ⟨_, rfl, _, _, _, [], _, [], hW', trodAll_mk1 (shut_bool Try.underlying4 _), (trodAll_cons_mk (shut_int Try.underlying2 w0) (trodAll_cons_mk (Below.trod laidOut (by kernel_rfl) (of_decide_eq_true (by kernel_rfl)) k1 bel lt1) trodAll_mk0)), rfl, bel.frame _, fun h => by cases h⟩
theorem over : Rows.fnExactSchemeOfFamilyRow.holds Try.pinned (OpenSpec.ofChange Rows.fnExactSchemeOfFamilySpec) :=
  OpenClaim.holds_of_wide 11 Try.f11 rfl rfl rfl rfl rfl rfl rfl ⟨rfl, rfl, rfl, rfl, rfl⟩ rfl rfl rfl rfl rfl (by kernel_rfl) Try.func11 (by kernel_rfl)
    (of_decide_eq_true (by kernel_rfl)) (by unfold Func.isWrapper; first | (rw [if_pos (by decide +kernel)]; kernel_rfl) | (rw [if_neg (by decide +kernel)]; exact ⟨rfl, rfl⟩))
    (fun os started H enc _ => lifted os started H enc)
theorem proved : Rows.FnExactSchemeOfFamilySaid := over
#print axioms proved
end Go.Proofs.Yticobjbjejpomaa.fnExactSchemeOfFamily
namespace Go.Proofs.Yticobjbjejpomaa
/-- The row, under a short name, for the claim. -/
theorem fnExactSchemeOfFamily_holds : Rows.FnExactSchemeOfFamilySaid := fnExactSchemeOfFamily.proved
end Go.Proofs.Yticobjbjejpomaa
