/- The program's JoinEnrolled returns what the reference's returns, for all arguments; no conditions. -/
import Derived.Test.YtemdeeepamnbcaaQFnExactJoinEnrolled
set_option linter.unusedVariables false
set_option maxRecDepth 100000
namespace Go.Proofs.Ytemdeeepamnbcaa.Pure
open Go.RowKit Go.Proofs.Ytemdeeepamnbcaa.PFnExactJoinEnrolled Go.Proofs.YtemdeeepamnbcaaW.PrintWords Go.Proofs.YtemdeeepamnbcaaW.PrintLast Go.Proofs.Ytemdeeepamnbcaa.M

theorem FnExactJoinEnrolled : laws_FnExactJoinEnrolled.Pure := by
  intro p l hp hm hs hw
  refine Ev.rounds (g := fun k => laws_FnExactJoinEnrolled.f k p l) ?_
  have hl : l.length ≤ 11728124029610 := by omega
  have hl' : l.length ≤ 35184372088832 := by omega
  have hx : ∀ r ∈ l, r.length ≤ 35184372088832 := fun r hr => by have := hw r hr; omega
  unfold laws_FnExactJoinEnrolled.f
  obtain ⟨v, hv⟩ := laws_szInt64SS.ex l 1048576 hl'
  refine Ev.bind hv ?_
  by_cases hb : v < 0
  · exact Ev.pos hb (Ev.now _)
  · refine Ev.neg hb (Ev.bind (laws_toInt64SS.ev l hl hx) (Ev.bind (spec_JoinEnrolled.ev p l hl' hx) (Ev.bind (laws_toInt64SS.ev l hl hx) (Ev.bind (impl_JoinEnrolled.ev p l hl' hx) (Ev.pos rfl (Ev.succ ?_))))))
    simp only [laws_FnExactJoinEnrolled.j0]
    exact Ev.neg (by simp) (Ev.bind (laws_toInt64SS.ev l hl hx) (Ev.bind (laws_eqInt64SS.ev _ hl' hx) (Ev.pos rfl (Ev.now _))))

end Go.Proofs.Ytemdeeepamnbcaa.Pure
