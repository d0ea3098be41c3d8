/- The law's tied card. -/
import Derived.Test.YticobjbjejpomaaDoorLawFnExactSchemeText
import Derived.Test.YticobjbjejpomaaDoorCards
import Derived.Test.YticobjbjejpomaaDoorTie
import Derived.SevenTiedAt
namespace Go.Proofs.YticobjbjejpomaaDoor
open Go
theorem fnExactSchemeTextCard_holds : Rows.FnExactSchemeTextCardSaid :=
  Claim7.holds_tied_plain_at .later [] [.data, .data, .data] true (true, "895488552ddfc1c83cf26791c8c6a7ce095148e7ae5d66697f1b7be334454266") true fnExactSchemeText_holds (fun _ h => by cases h) (by kernel_rfl) (fun _ h => by cases h) fnExactSchemeText_row_tie rfl ⟨rfl, rfl⟩ (by kernel_rfl) rfl
    (fun f fn hf hfn => by
      obtain rfl : f = 3 := Option.some.inj ((show Tryd.prog.funcNamed "loop.example/g01117/laws.FnExactSchemeText" = some 3 by kernel_rfl).symm.trans hf) |>.symm
      obtain rfl : fn = Tryd.f3 := (Option.some.inj (Tryd.func3.symm.trans hfn)).symm
      exact ⟨by kernel_rfl, fun j t ht => by
        rw [Tryd.params3] at ht
        have hm : t ∈ [27] := by simpa using Array.mem_of_getElem? ht
        have hall : ([27].all fun u => !Tryd.prog.wantsStandIn u) = true := by kernel_rfl
        exact (show Tryd.prog.wantsStandIn t = false by simpa using List.all_eq_true.1 hall t hm)⟩)
    (by kernel_rfl)
#print axioms fnExactSchemeTextCard_holds
end Go.Proofs.YticobjbjejpomaaDoor
