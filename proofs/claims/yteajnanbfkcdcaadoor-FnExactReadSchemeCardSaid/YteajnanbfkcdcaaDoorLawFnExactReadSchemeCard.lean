/- The law's tied card. -/
import Derived.Test.YteajnanbfkcdcaaDoorLawFnExactReadScheme
import Derived.Test.YteajnanbfkcdcaaDoorCards
import Derived.Test.YteajnanbfkcdcaaDoorTie
import Derived.SevenTiedAt
namespace Go.Proofs.YteajnanbfkcdcaaDoor
open Go
theorem fnExactReadSchemeCard_holds : Rows.FnExactReadSchemeCardSaid :=
  Claim7.holds_tied_plain_at .later [] [.data, .data, .data, .data, .sentinel, .sentinel, .pinned] true (true, "4b331daf4c067f062ef930b63c7de71cf932d6cc0fc303e148a68d1956748dcb") true fnExactReadScheme_holds (fun _ h => by cases h) (by kernel_rfl) (fun _ h => by cases h) fnExactReadScheme_row_tie rfl ⟨rfl, rfl⟩ (by kernel_rfl) rfl
    (fun f fn hf hfn => by
      obtain rfl : f = 3 := Option.some.inj ((show Tryd.prog.funcNamed "loop.example/g01117/laws.FnExactReadScheme" = some 3 by kernel_rfl).symm.trans hf) |>.symm
      obtain rfl : fn = Tryd.f3 := (Option.some.inj (Tryd.func3.symm.trans hfn)).symm
      exact ⟨by kernel_rfl, fun j t ht => by
        rw [Tryd.params3] at ht
        have hm : t ∈ [9] := by simpa using Array.mem_of_getElem? ht
        have hall : ([9].all fun u => !Tryd.prog.wantsStandIn u) = true := by kernel_rfl
        exact (show Tryd.prog.wantsStandIn t = false by simpa using List.all_eq_true.1 hall t hm)⟩)
    (by kernel_rfl)
#print axioms fnExactReadSchemeCard_holds
end Go.Proofs.YteajnanbfkcdcaaDoor
