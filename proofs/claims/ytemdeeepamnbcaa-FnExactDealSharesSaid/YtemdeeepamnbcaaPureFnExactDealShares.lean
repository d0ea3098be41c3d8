/- The program's DealShares returns what the reference's returns, for all arguments, and its result stands by itself; no conditions. -/
import Derived.Test.YtemdeeepamnbcaaQFnExactDealShares
set_option linter.unusedVariables false
set_option maxRecDepth 100000
namespace Go.Proofs.Ytemdeeepamnbcaa.Pure
open Go.RowKit Go.Proofs.Ytemdeeepamnbcaa.PFnExactDealShares Go.Proofs.YtemdeeepamnbcaaW.PrintWords Go.Proofs.YtemdeeepamnbcaaW.PrintLast Go.Proofs.Ytemdeeepamnbcaa.M

theorem FnExactDealShares : laws_FnExactDealShares.Pure := by
  intro p c l hp hmc hsc hwc hm hs hw
  refine Ev.rounds (g := fun k => laws_FnExactDealShares.f k p c l) ?_
  have hc : c.length ≤ 35184372088832 := by omega
  have hl : l.length ≤ 35184372088832 := by omega
  have hd := dealSM_len p c l
  have hr : (dealSM p c l).1.length ≤ 35184372088832 := Nat.le_trans hd (by omega)
  have hr' : (dealSM p c l).1.length ≤ 8796093022208 := Nat.le_trans hd (by omega)
  unfold laws_FnExactDealShares.f
  by_cases hb : (c.length : Int) > 1048576
  · exact Ev.pos hb (Ev.now _)
  by_cases hb2 : (l.length : Int) > 1048576
  · exact Ev.neg hb (Ev.pos hb2 (Ev.now _))
  · refine Ev.neg hb (Ev.neg hb2 (Ev.bind (laws_toInt64S.ev c hc) (Ev.bind (laws_toInt64S.ev l hl) (Ev.bind (spec_DealShares.ev p c l hc hl) (Ev.bind (laws_toInt64S.ev c hc) (Ev.bind (laws_toInt64S.ev l hl) (Ev.bind (impl_DealShares.ev p c l hc hl) (Ev.bind (laws_eqShareS.ev _ hr') (Ev.pos rfl (Ev.succ ?_))))))))))
    simp only [laws_FnExactDealShares.j0]
    refine Ev.neg (by simp) (Ev.bind (laws_toInt64S.ev c hc) (Ev.bind (laws_eqInt64S.ev _ _ hc) (Ev.pos (by simp) (Ev.bind (laws_toInt64S.ev l hl) (Ev.bind (laws_eqInt64S.ev _ _ hl) (Ev.pos (by simp) ?_))))))
    refine Ev.bind (laws_markInt64S.ev c 1 hc (by omega) (by omega)) (Ev.bind (laws_markInt64S.ev l _ hl (by omega) (by simp only; omega)) ?_)
    refine Ev.neg (by simp only; omega) (Ev.bind (laws_eqShareS.ev _ hr') (Ev.pos (by simp) (Ev.succ ?_)))
    simp only [laws_FnExactDealShares.j1]
    refine Ev.neg (by simp) (Ev.bind (laws_markShareS.ev _ 1 hr (by omega) (by omega)) (Ev.bind (laws_heldShareS.ev _ 1 hr (by omega) (by omega)) ?_))
    refine Ev.neg (by omega) (Ev.pos rfl (Ev.bind (laws_toInt64S.ev c hc) (Ev.bind (laws_toInt64S.ev l hl) (Ev.bind (impl_DealShares.ev p c l hc hl) (Ev.bind (laws_eqShareS.ev _ hr') (Ev.pos (by simp) (Ev.succ ?_)))))))
    simp only [laws_FnExactDealShares.j2]
    exact Ev.neg (by simp) (Ev.bind (laws_heldShareS.ev _ 1 hr (by omega) (by omega)) (Ev.neg (by omega) (Ev.pos rfl (Ev.now _))))

end Go.Proofs.Ytemdeeepamnbcaa.Pure
