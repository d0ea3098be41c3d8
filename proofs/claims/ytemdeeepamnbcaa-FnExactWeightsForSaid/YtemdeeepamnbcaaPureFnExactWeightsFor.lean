/- The program's WeightsFor returns what the reference's returns, for all arguments, and its result stands by itself; no conditions. -/
import Derived.Test.YtemdeeepamnbcaaQFnExactWeightsFor
set_option linter.unusedVariables false
set_option maxRecDepth 100000
namespace Go.Proofs.Ytemdeeepamnbcaa.Pure
open Go.RowKit Go.Proofs.Ytemdeeepamnbcaa.PFnExactWeightsFor Go.Proofs.YtemdeeepamnbcaaW.PrintWords Go.Proofs.YtemdeeepamnbcaaW.PrintLast Go.Proofs.Ytemdeeepamnbcaa.M

theorem FnExactWeightsFor : laws_FnExactWeightsFor.Pure := by
  intro p l x hp hm hs hw hx
  refine Ev.rounds (g := fun k => laws_FnExactWeightsFor.f k p l x) ?_
  have hl : l.length ≤ 35184372088832 := by omega
  have hr : (weightsForM p l x).1.length ≤ 35184372088832 := Nat.le_trans (weightsForM_len p l x) (by omega)
  unfold laws_FnExactWeightsFor.f
  by_cases hb : (l.length : Int) > 1048576
  · exact Ev.pos hb (Ev.now _)
  · refine Ev.neg hb (Ev.bind (laws_toInt64S.ev l hl) (Ev.bind (spec_WeightsFor.ev p l x hl) (Ev.bind (laws_toInt64S.ev l hl) (Ev.bind (impl_WeightsFor.ev p l x hl) (Ev.bind (laws_eqInt64S.ev _ _ hr) (Ev.pos (by simp) (Ev.succ ?_)))))))
    simp only [laws_FnExactWeightsFor.j0]
    refine Ev.neg (by simp) (Ev.bind (laws_toInt64S.ev l hl) (Ev.bind (laws_eqInt64S.ev _ _ hl) (Ev.pos (by simp) (Ev.bind (laws_markInt64S.ev l 1 hl (by omega) (by omega)) ?_))))
    refine Ev.neg (by simp only; omega) (Ev.bind (laws_eqInt64S.ev _ _ hr) (Ev.pos (by simp) (Ev.succ ?_)))
    simp only [laws_FnExactWeightsFor.j1]
    refine Ev.neg (by simp) (Ev.bind (laws_markInt64S.ev _ 1 hr (by omega) (by omega)) (Ev.bind (laws_heldInt64S.ev _ 1 hr (by omega) (by omega)) ?_))
    refine Ev.neg (by omega) (Ev.pos rfl (Ev.bind (laws_toInt64S.ev l hl) (Ev.bind (impl_WeightsFor.ev p l x hl) (Ev.bind (laws_eqInt64S.ev _ _ hr) (Ev.pos (by simp) (Ev.succ ?_))))))
    simp only [laws_FnExactWeightsFor.j2]
    exact Ev.neg (by simp) (Ev.bind (laws_heldInt64S.ev _ 1 hr (by omega) (by omega)) (Ev.neg (by omega) (Ev.pos rfl (Ev.now _))))

end Go.Proofs.Ytemdeeepamnbcaa.Pure
