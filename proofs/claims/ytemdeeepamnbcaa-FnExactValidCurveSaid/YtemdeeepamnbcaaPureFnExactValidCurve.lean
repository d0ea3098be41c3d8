/- The program's ValidCurve returns what the reference's returns, for all arguments; no conditions. -/
import Derived.Test.YtemdeeepamnbcaaQFnExactValidCurve
set_option linter.unusedVariables false
set_option maxRecDepth 100000
namespace Go.Proofs.Ytemdeeepamnbcaa.Pure
open Go.RowKit Go.Proofs.Ytemdeeepamnbcaa.PFnExactValidCurve Go.Proofs.YtemdeeepamnbcaaW.PrintWords Go.Proofs.YtemdeeepamnbcaaW.PrintLast Go.Proofs.Ytemdeeepamnbcaa.M

theorem FnExactValidCurve : laws_FnExactValidCurve.Pure := by
  intro p l hp hm hs hw
  refine Ev.rounds (g := fun k => laws_FnExactValidCurve.f k p l) ?_
  have hl : l.length ≤ 35184372088832 := by omega
  unfold laws_FnExactValidCurve.f
  by_cases hb : (l.length : Int) > 1048576
  · exact Ev.pos hb (Ev.now _)
  · refine Ev.neg hb (Ev.bind (laws_toInt64S.ev l hl) (Ev.bind (spec_ValidCurve.ev p l hl) (Ev.bind (laws_toInt64S.ev l hl) (Ev.bind (impl_ValidCurve.ev p l hl) (Ev.neg (by simp) (Ev.bind (laws_toInt64S.ev l hl) (Ev.bind (laws_eqInt64S.ev l l hl) (Ev.pos (by simp) (Ev.now _)))))))))

end Go.Proofs.Ytemdeeepamnbcaa.Pure
