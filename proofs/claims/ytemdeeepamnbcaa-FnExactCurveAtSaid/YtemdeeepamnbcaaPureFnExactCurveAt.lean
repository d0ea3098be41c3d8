/- The program's CurveAt returns what the reference's returns, for all arguments; no conditions. -/
import Derived.Test.YtemdeeepamnbcaaQFnExactCurveAt
set_option linter.unusedVariables false
set_option maxRecDepth 100000
namespace Go.Proofs.Ytemdeeepamnbcaa.Pure
open Go.RowKit Go.Proofs.Ytemdeeepamnbcaa.PFnExactCurveAt Go.Proofs.YtemdeeepamnbcaaW.PrintWords Go.Proofs.YtemdeeepamnbcaaW.PrintLast Go.Proofs.Ytemdeeepamnbcaa.M

theorem FnExactCurveAt : laws_FnExactCurveAt.Pure := by
  intro p l x hp hm hs hw hx
  refine Ev.rounds (g := fun k => laws_FnExactCurveAt.f k p l x) ?_
  have hl : l.length ≤ 35184372088832 := by omega
  unfold laws_FnExactCurveAt.f
  by_cases hb : (l.length : Int) > 1048576
  · exact Ev.pos hb (Ev.now _)
  · refine Ev.neg hb (Ev.bind (laws_toInt64S.ev l hl) (Ev.bind (spec_CurveAt.ev p l x hl) (Ev.bind (laws_toInt64S.ev l hl) (Ev.bind (impl_CurveAt.ev p l x hl) ?_))))
    refine Ev.pos rfl (Ev.succ ?_)
    simp only [laws_FnExactCurveAt.j0]
    exact Ev.neg (by simp [curveAtM]) (Ev.bind (laws_toInt64S.ev l hl) (Ev.bind (laws_eqInt64S.ev l l hl) (Ev.pos (by simp) (Ev.now _))))

end Go.Proofs.Ytemdeeepamnbcaa.Pure
