/- The law's walk, put under the given statement. -/
import Derived.Lay
import Derived.Stop.Joined
import Derived.Handed
import Derived.Test.YtfjihanfiliniaaDoorRows
import Derived.Test.YtfjihanfiliniaaDoorVF2
import Derived.Test.YtfjihanfiliniaaDoorVO
import Derived.WalkKit
import Derived.ProofKit
import Derived.OpenShut
import Derived.ShutString
import Derived.ChangeOld
import Derived.Below
import Derived.SizedLaws
namespace Go.Proofs.YtfjihanfiliniaaDoor.fnExactTableText
open Go.ChangeShapes Go.WideShapes Go.ChangeAt Go.RowKit Go.Proofs.YtfjihanfiliniaaDoor.VC
open Go.ChangeMaps (open_string shut_string)
set_option linter.unusedVariables false
theorem own : ownKnob Tryd.prog.godebug = none := by kernel_rfl
theorem laidOut : laidOutB Tryd.prog = true := by kernel_rfl
theorem laid_met (os : Os) (args : Array Value) : laidMet Tryd.prog Rows.fnExactTableTextRow.laid ((World.laidAll Tryd.prog os Rows.fnExactTableTextRow.laid).forCall (fun _ _ => 0) ⟨#[], args, []⟩).memory := laidMet_laidAll _ (by kernel_rfl) (by kernel_rfl)
set_option maxRecDepth 100000 in
theorem lifted (os : Os) (started : os.Started) (H : Type) (enc : TypeId × Value → H) :
    ReturnsInHanded {} Tryd.checked os 3 .any (fun w args => (Rows.fnExactTableTextSpec.pre enc Tryd.prog Tryd.f3 Rows.fnExactTableTextRow.domain false w args ∧ laidMetH Tryd.prog Rows.fnExactTableTextRow.laid w) ∧ sizedMet enc Tryd.prog Tryd.f3 (OpenSpec.ofChange Rows.fnExactTableTextSpec) false w args) (Rows.fnExactTableTextSpec.post enc Tryd.prog Tryd.f3 false true false false) := by
  refine returnsInHanded_of_change_and (C := Tryd.checked) (X := (fun w _ => laidMetH Tryd.prog Rows.fnExactTableTextRow.laid w)) (fun w w' args hh h => laidMetH.of_heap hh h) own started (by kernel_rfl) Tryd.func3
    (ChangeSpec.witness_at (enc := enc) (C := Tryd.checked) (X := (fun w _ => laidMetH Tryd.prog Rows.fnExactTableTextRow.laid w)) false (World.laidAll Tryd.prog os Rows.fnExactTableTextRow.laid) #[.agg #[.int .i64 0, .slice none 0 0, .slice none 0 0]] 8 (World.laidAll_os _ _ _) (by kernel_rfl) (by kernel_rfl) (by kernel_rfl) (by kernel_rfl) (by kernel_rfl) (laid_met os _)) ?_
  intro W base args ds gs before hval0 hW hcnd hsz0 hX _
  have hval : ∀ (j : Nat) t v, Tryd.f3.params[j]? = some t → args[j]? = some v → Value.okWide Tryd.prog W .any base t v := hval0
  have hW' := hW
  obtain ⟨p, q, hA0, hV, rfl, hfz, hnd⟩ := hW
  have hA : DataW.TrodAll enc Tryd.prog W 0 (fun _ => true) true Tryd.f3.params.toList args.toList ds p := hA0
  rw [Tryd.params3] at hA hval
  obtain ⟨v0, vs0, d0, ds0, p0, q0, hargs, rfl, rfl, h0, r0⟩ := trodAll_cons hA
  obtain ⟨rfl, rfl, rfl⟩ := trodAll_nil r0
  obtain rfl : args = #[v0] := by cases args; simp_all
  obtain ⟨rfl, rfl⟩ := trodVars_none hV
  have k0 := h0
  have lt0 : ∀ x ∈ p0, x.block < W.heap.size := by obtain ⟨m, hm⟩ := k0; exact DataW.trod_lt m _ _ _ hm
  obtain ⟨cs0, rfl, hz0⟩ := okWide_struct Tryd.underlying25 (hval 0 25 v0 rfl rfl)
  obtain ⟨m0, hf0⟩ := h0
  obtain ⟨cs0⟩ := cs0
  clear hz0
  obtain ⟨⟨a0_0, ⟨l0_1, l0_2⟩⟩, ⟨_, _, rfl, rfl, ⟨_, _, rfl, ⟨u0_1, rfl, hr0_1⟩, ⟨u0_2, rfl, hr0_2⟩⟩⟩, ⟨hw0_0, ⟨hw0_1, hw0_2⟩⟩⟩ := (Opens.struct (HH := Hp.start W) Tryd.underlying25 (by kernel_rfl) (OpensF.cons rfl (by kernel_rfl) (Opens.int Tryd.underlying2) (OpensF.cons rfl (by kernel_rfl) (Opens.slice Tryd.underlying22 (by kernel_rfl) (Opens.int Tryd.underlying2)) (OpensF.last rfl (by kernel_rfl) (Opens.slice Tryd.underlying23 (by kernel_rfl) (Opens.struct Tryd.underlying57 (by kernel_rfl) (OpensF.cons rfl (by kernel_rfl) (Opens.int Tryd.underlying2) (OpensF.last rfl (by kernel_rfl) (Opens.slice Tryd.underlying22 (by kernel_rfl) (Opens.int Tryd.underlying2)))))))))) _ _ _ (show DataW.trod enc Tryd.prog W 0 (fun _ => true) true m0 25 cs0 = some (d0, p0) from hf0)
  clear hA0 hval0 hsz0
  refine Calls.mono (show Calls Tryd.prog 3 #[.agg #[.int .i64 a0_0, u0_1, u0_2]] W _ from (law_TableText a0_0 hr0_1 hr0_2) W (sat_start W)) fun e W' he_ => ?_
  obtain ⟨r, H', rfl, hs, rfl, _⟩ := he_
  have bel : Below W.heap.size W W' := hs.below
  exact ⟨_, rfl, _, _, _, [], _, [], hW', trodAll_mk1 (shut_bool Tryd.underlying4 _), (trodAll_cons_mk (Below.trod laidOut (by kernel_rfl) (of_decide_eq_true (by kernel_rfl)) k0 bel lt0) trodAll_mk0), rfl, bel.frame _, fun h => by cases h⟩
theorem over : Rows.fnExactTableTextRow.holds Tryd.pinned (OpenSpec.ofChange Rows.fnExactTableTextSpec) :=
  OpenClaim.holds_of_wide 3 Tryd.f3 rfl rfl rfl rfl rfl rfl rfl ⟨rfl, rfl, rfl, rfl, rfl⟩ rfl rfl rfl rfl rfl (by kernel_rfl) Tryd.func3 (by kernel_rfl)
    (of_decide_eq_true (by kernel_rfl)) (by unfold Func.isWrapper; first | (rw [if_pos (by decide +kernel)]; kernel_rfl) | (rw [if_neg (by decide +kernel)]; exact ⟨rfl, rfl⟩))
    (fun os started H enc _ => lifted os started H enc)
theorem proved : Rows.FnExactTableTextSaid := over
#print axioms proved
end Go.Proofs.YtfjihanfiliniaaDoor.fnExactTableText
namespace Go.Proofs.YtfjihanfiliniaaDoor
/-- The row, under a short name, for the claim. -/
theorem fnExactTableText_holds : Rows.FnExactTableTextSaid := fnExactTableText.proved
end Go.Proofs.YtfjihanfiliniaaDoor
