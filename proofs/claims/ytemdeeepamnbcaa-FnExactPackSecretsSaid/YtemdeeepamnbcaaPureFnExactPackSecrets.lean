/- The program's PackSecrets returns what the reference's returns, for all arguments, and its result stands by itself; no conditions. -/
import Derived.Test.YtemdeeepamnbcaaQFnExactPackSecrets
set_option linter.unusedVariables false
set_option maxRecDepth 100000
namespace Go.Proofs.Ytemdeeepamnbcaa.Pure
open Go.RowKit Go.Proofs.Ytemdeeepamnbcaa.PFnExactPackSecrets Go.Proofs.YtemdeeepamnbcaaW.PrintWords Go.Proofs.YtemdeeepamnbcaaW.PrintLast Go.Proofs.Ytemdeeepamnbcaa.M

theorem FnExactPackSecrets : laws_FnExactPackSecrets.Pure := by
  intro p a b hp hma hsa hwa hmb hsb hwb
  refine Ev.rounds (g := fun k => laws_FnExactPackSecrets.f k p a b) ?_
  have ha : a.length ≤ 35184372088832 := by omega
  have hb : b.length ≤ 35184372088832 := by omega
  have hr : (packM p a b).1.length ≤ 35184372088832 := Nat.le_trans (packM_len p a b) (by omega)
  unfold laws_FnExactPackSecrets.f
  by_cases hb1 : (a.length : Int) > 1048576
  · exact Ev.pos hb1 (Ev.now _)
  by_cases hb2 : (b.length : Int) > 1048576
  · exact Ev.neg hb1 (Ev.pos hb2 (Ev.now _))
  · refine Ev.neg hb1 (Ev.neg hb2 ?_)
    repeat (first | exact Ev.now _ | refine Ev.bind (laws_toInt64S.ev a ha) ?_ | refine Ev.bind (laws_toInt64S.ev b hb) ?_ | refine Ev.bind (spec_PackSecrets.ev p a b ha hb) ?_ | refine Ev.bind (impl_PackSecrets.ev p a b ha hb) ?_ | refine Ev.bind (laws_eqInt64S.ev _ _ hr) ?_ | refine Ev.bind (laws_eqInt64S.ev _ _ ha) ?_ | refine Ev.bind (laws_eqInt64S.ev _ _ hb) ?_ | refine Ev.bind (laws_markInt64S.ev a 1 ha (by omega) (by omega)) ?_ | refine Ev.bind (laws_markInt64S.ev b _ hb (by omega) (by simp only; omega)) ?_ | refine Ev.bind (laws_markInt64S.ev _ 1 hr (by omega) (by omega)) ?_ | refine Ev.bind (laws_heldInt64S.ev _ 1 hr (by omega) (by omega)) ?_ | refine Ev.pos (by first | rfl | (simp; done) | omega | (simp only [List.length_map]; omega)) ?_ | refine Ev.neg (by first | (simp; done) | omega | (simp only [List.length_map]; omega)) ?_ | (refine Ev.succ ?_; simp only [laws_FnExactPackSecrets.j0]) | (refine Ev.succ ?_; simp only [laws_FnExactPackSecrets.j1]) | (refine Ev.succ ?_; simp only [laws_FnExactPackSecrets.j2]))

end Go.Proofs.Ytemdeeepamnbcaa.Pure
