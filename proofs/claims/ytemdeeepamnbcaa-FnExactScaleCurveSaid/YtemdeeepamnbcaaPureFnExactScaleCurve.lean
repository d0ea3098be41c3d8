/- The program's ScaleCurve returns what the reference's returns, for all arguments, and its result stands by itself; no conditions. -/
import Derived.Test.YtemdeeepamnbcaaQFnExactScaleCurve
set_option linter.unusedVariables false
set_option maxRecDepth 100000
namespace Go.Proofs.Ytemdeeepamnbcaa.Pure
open Go.RowKit Go.Proofs.Ytemdeeepamnbcaa.PFnExactScaleCurve Go.Proofs.YtemdeeepamnbcaaW.PrintWords Go.Proofs.YtemdeeepamnbcaaW.PrintLast Go.Proofs.Ytemdeeepamnbcaa.M

theorem FnExactScaleCurve : laws_FnExactScaleCurve.Pure := by
  intro p a t hp hma hsa hwa ht
  refine Ev.rounds (g := fun k => laws_FnExactScaleCurve.f k p a t) ?_
  have ha : a.length ≤ 35184372088832 := by omega
  have hr : (scaleM p a t).1.length ≤ 35184372088832 := Nat.le_trans (scaleM_len p a t) (by omega)
  unfold laws_FnExactScaleCurve.f
  by_cases hb1 : (a.length : Int) > 1048576
  · exact Ev.pos hb1 (Ev.now _)
  · refine Ev.neg hb1 ?_
    repeat (first | exact Ev.now _ | refine Ev.bind (laws_toInt64S.ev a ha) ?_ | refine Ev.bind (spec_ScaleCurve.ev p a t ha) ?_ | refine Ev.bind (impl_ScaleCurve.ev p a t ha) ?_ | refine Ev.bind (laws_eqInt64S.ev _ _ hr) ?_ | refine Ev.bind (laws_eqInt64S.ev _ _ ha) ?_ | refine Ev.bind (laws_markInt64S.ev a 1 ha (by omega) (by omega)) ?_ | refine Ev.bind (laws_markInt64S.ev _ 1 hr (by omega) (by omega)) ?_ | refine Ev.bind (laws_heldInt64S.ev _ 1 hr (by omega) (by omega)) ?_ | refine Ev.pos (by first | rfl | (simp; done) | omega | (simp only [List.length_map]; omega)) ?_ | refine Ev.neg (by first | (simp; done) | omega | (simp only [List.length_map]; omega)) ?_ | (refine Ev.succ ?_; simp only [laws_FnExactScaleCurve.j0]) | (refine Ev.succ ?_; simp only [laws_FnExactScaleCurve.j1]) | (refine Ev.succ ?_; simp only [laws_FnExactScaleCurve.j2]))

end Go.Proofs.Ytemdeeepamnbcaa.Pure
