/- The program's ValidShares returns what the reference's returns, for all arguments; no conditions. -/
import Derived.Test.YtemdeeepamnbcaaQFnExactValidShares
set_option linter.unusedVariables false
set_option maxRecDepth 100000
namespace Go.Proofs.Ytemdeeepamnbcaa.Pure
open Go.RowKit Go.Proofs.Ytemdeeepamnbcaa.PFnExactValidShares Go.Proofs.YtemdeeepamnbcaaW.PrintWords Go.Proofs.YtemdeeepamnbcaaW.PrintLast Go.Proofs.Ytemdeeepamnbcaa.M

theorem FnExactValidShares : laws_FnExactValidShares.Pure := by
  intro p l hp hm hs hw
  refine Ev.rounds (g := fun k => laws_FnExactValidShares.f k p l) ?_
  have hl : l.length ≤ 8796093022208 := by omega
  have hl' : (l.map toSh).length ≤ 8796093022208 := by simpa using hl
  unfold laws_FnExactValidShares.f
  obtain ⟨v, hv⟩ := laws_szShareS.ex l 1048576
  refine Ev.bindc hv ?_
  by_cases hb : v < 0
  · exact Ev.pos hb (Ev.now _)
  · refine Ev.neg hb (Ev.bind (laws_toShareS.ev l hl) (Ev.bind (spec_ValidShares.ev p _ hl') (Ev.bind (laws_toShareS.ev l hl) (Ev.bind (impl_ValidShares.ev p _ hl') (Ev.neg (by simp) ?_)))))
    exact Ev.bind (laws_toShareS.ev l hl) (Ev.bind (laws_eqShareS.ev _ hl') (Ev.pos rfl (Ev.now _)))

end Go.Proofs.Ytemdeeepamnbcaa.Pure
