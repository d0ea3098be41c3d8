/- The law's walk, put under the given statement. -/
import Derived.Test.YticobjbjejpomaaRows
import Derived.Test.YticobjbjejpomaaVF16
import Derived.Test.YticobjbjejpomaaVO
import Derived.WalkKit
import Derived.ProofKit
import Derived.OpenShut
import Derived.ShutString
import Derived.ChangeOld
import Derived.Below
import Derived.SizedLaws
namespace Go.Proofs.Yticobjbjejpomaa.fnExactTrimScheme
open Go.ChangeShapes Go.WideShapes Go.ChangeAt Go.RowKit Go.Proofs.Yticobjbjejpomaa.VC
open Go.ChangeMaps (open_string shut_string)
set_option linter.unusedVariables false
theorem own : ownKnob Try.prog.godebug = none := by kernel_rfl
theorem laidOut : laidOutB Try.prog = true := by kernel_rfl
set_option maxRecDepth 100000 in
theorem lifted (os : Os) (started : os.Started) (H : Type) (enc : TypeId × Value → H) :
    ReturnsInHanded {} Try.checked os 9 .any (Rows.fnExactTrimSchemeSpec.pre6 enc Try.prog Try.f9 Rows.fnExactTrimSchemeRow.domain false) (Rows.fnExactTrimSchemeSpec.post enc Try.prog Try.f9 false true false false) := by
  refine returnsInHanded_of_change_sized (C := Try.checked) own started (by kernel_rfl) Try.func9
    (ChangeSpec.witness6 (enc := enc) (C := Try.checked) false ⟨#[], #[.agg #[.int .i64 0, .slice none 0 0, .int .i64 0, .int .i64 0, .slice none 0 0]], []⟩ 8 (by kernel_rfl) (by kernel_rfl) (by kernel_rfl) (by kernel_rfl)) ?_
  intro W base args ds gs before hval0 hW hcnd hsz0 _
  have hval : ∀ (j : Nat) t v, Try.f9.params[j]? = some t → args[j]? = some v → Value.okWide Try.prog W .any base t v := hval0
  have hW' := hW
  obtain ⟨p, q, hA0, hV, rfl, hfz, hnd⟩ := hW
  have hA : DataW.TrodAll enc Try.prog W 0 (fun _ => true) true Try.f9.params.toList args.toList ds p := hA0
  rw [Try.params9] at hA hval
  obtain ⟨v0, vs0, d0, ds0, p0, q0, hargs, rfl, rfl, h0, r0⟩ := trodAll_cons hA
  obtain ⟨rfl, rfl, rfl⟩ := trodAll_nil r0
  obtain rfl : args = #[v0] := by cases args; simp_all
  obtain ⟨rfl, rfl⟩ := trodVars_none hV
  have k0 := h0
  have lt0 : ∀ x ∈ p0, x.block < W.heap.size := by obtain ⟨m, hm⟩ := k0; exact DataW.trod_lt m _ _ _ hm
  obtain ⟨cs0, rfl, hz0⟩ := okWide_struct Try.underlying27 (hval 0 27 v0 rfl rfl)
  obtain ⟨m0, hf0⟩ := h0
  obtain ⟨cs0⟩ := cs0
  clear hz0
  obtain ⟨⟨a0_0, ⟨l0_1, ⟨a0_2_0, ⟨a0_2_1, l0_2_2⟩⟩⟩⟩, ⟨_, _, rfl, rfl, ⟨_, _, rfl, ⟨u0_1, rfl, hr0_1⟩, ⟨_, _, rfl, rfl, ⟨_, _, rfl, rfl, ⟨u0_2_2, rfl, hr0_2_2⟩⟩⟩⟩⟩, ⟨hw0_0, ⟨hw0_1, ⟨hw0_2_0, ⟨hw0_2_1, hw0_2_2⟩⟩⟩⟩⟩ := (Opens.struct (HH := Hp.start W) Try.underlying27 (by kernel_rfl) (OpensF.cons rfl (by kernel_rfl) (Opens.int Try.underlying2) (OpensF.cons rfl (by kernel_rfl) (Opens.slice Try.underlying22 (by kernel_rfl) (Opens.int Try.underlying2)) (OpensF.last rfl (by kernel_rfl) (Opens.struct Try.underlying25 (by kernel_rfl) (OpensF.cons rfl (by kernel_rfl) (Opens.int Try.underlying2) (OpensF.cons rfl (by kernel_rfl) (Opens.int Try.underlying2) (OpensF.last rfl (by kernel_rfl) (Opens.slice Try.underlying23 (by kernel_rfl) (Opens.slice Try.underlying22 (by kernel_rfl) (Opens.int Try.underlying2))))))))))) _ _ _ (show DataW.trod enc Try.prog W 0 (fun _ => true) true m0 27 cs0 = some (d0, p0) from hf0)
  clear hA0 hval0 hsz0
  refine Calls.mono (show Calls Try.prog 9 #[.agg #[.int .i64 a0_0, u0_1, .int .i64 a0_2_0, .int .i64 a0_2_1, u0_2_2]] W _ from (law_TrimScheme a0_0 a0_2_0 a0_2_1 hr0_1 hr0_2_2 (Nat.le_refl _)) W (sat_start W)) fun e W' he_ => ?_
  obtain ⟨r, H', rfl, hs, rfl, _⟩ := he_
  have bel : Below W.heap.size W W' := hs.below
  exact ⟨_, rfl, _, _, _, [], _, [], hW', trodAll_mk1 (shut_bool Try.underlying4 _), (trodAll_cons_mk (Below.trod laidOut (by kernel_rfl) (of_decide_eq_true (by kernel_rfl)) k0 bel lt0) trodAll_mk0), rfl, bel.frame _, fun h => by cases h⟩
theorem over : Rows.fnExactTrimSchemeRow.holds Try.pinned (OpenSpec.ofChange Rows.fnExactTrimSchemeSpec) :=
  OpenClaim.holds_of_wide 9 Try.f9 rfl rfl rfl rfl rfl rfl rfl ⟨rfl, rfl, rfl, rfl, rfl⟩ rfl rfl rfl rfl rfl (by kernel_rfl) Try.func9 (by kernel_rfl)
    (of_decide_eq_true (by kernel_rfl)) (by unfold Func.isWrapper; first | (rw [if_pos (by decide +kernel)]; kernel_rfl) | (rw [if_neg (by decide +kernel)]; exact ⟨rfl, rfl⟩))
    (fun os started H enc _ => lifted os started H enc)
theorem proved : Rows.FnExactTrimSchemeSaid := over
#print axioms proved
end Go.Proofs.Yticobjbjejpomaa.fnExactTrimScheme
namespace Go.Proofs.Yticobjbjejpomaa
/-- The row, under a short name, for the claim. -/
theorem fnExactTrimScheme_holds : Rows.FnExactTrimSchemeSaid := fnExactTrimScheme.proved
end Go.Proofs.Yticobjbjejpomaa
