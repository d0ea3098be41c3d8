/- The law's tied card. -/
import Derived.Test.YtfjihanfiliniaaDoorLawFnExactTableText
import Derived.Test.YtfjihanfiliniaaDoorCards
import Derived.Test.YtfjihanfiliniaaDoorTie
import Derived.SevenTiedAt
namespace Go.Proofs.YtfjihanfiliniaaDoor
open Go
theorem fnExactTableTextCard_holds : Rows.FnExactTableTextCardSaid :=
  Claim7.holds_tied_plain_at .later [] [.data, .data, .data] true (true, "8b8983cb07722bc5e1d70cd743a315978a206a096898763f4e9e906d29124af5") false fnExactTableText_holds (fun _ h => by cases h) (by kernel_rfl) (fun _ h => by cases h) fnExactTableText_row_tie rfl ⟨rfl, rfl⟩ (by kernel_rfl) rfl
    (fun f fn hf hfn => by
      obtain rfl : f = 3 := Option.some.inj ((show Tryd.prog.funcNamed "loop.example/g01117/laws.FnExactTableText" = some 3 by kernel_rfl).symm.trans hf) |>.symm
      obtain rfl : fn = Tryd.f3 := (Option.some.inj (Tryd.func3.symm.trans hfn)).symm
      exact ⟨by kernel_rfl, fun j t ht => by
        rw [Tryd.params3] at ht
        have hm : t ∈ [25] := by simpa using Array.mem_of_getElem? ht
        have hall : ([25].all fun u => !Tryd.prog.wantsStandIn u) = true := by kernel_rfl
        exact (show Tryd.prog.wantsStandIn t = false by simpa using List.all_eq_true.1 hall t hm)⟩)
    (by kernel_rfl)
#print axioms fnExactTableTextCard_holds
end Go.Proofs.YtfjihanfiliniaaDoor
