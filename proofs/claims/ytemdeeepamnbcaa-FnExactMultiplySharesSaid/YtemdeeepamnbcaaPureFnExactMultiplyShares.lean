/- The program's MultiplyShares returns what the reference's returns, for all arguments, and its result stands by itself; no conditions. -/
import Derived.Test.YtemdeeepamnbcaaQFnExactMultiplyShares
set_option linter.unusedVariables false
set_option maxRecDepth 100000
namespace Go.Proofs.Ytemdeeepamnbcaa.Pure
open Go.RowKit Go.Proofs.Ytemdeeepamnbcaa.PFnExactMultiplyShares Go.Proofs.YtemdeeepamnbcaaW.PrintWords Go.Proofs.YtemdeeepamnbcaaW.PrintLast Go.Proofs.Ytemdeeepamnbcaa.M

theorem FnExactMultiplyShares : laws_FnExactMultiplyShares.Pure := by
  intro p a b hp hma hsa hwa hmb hsb hwb
  refine Ev.rounds (g := fun k => laws_FnExactMultiplyShares.f k p a b) ?_
  have ha : a.length ≤ 8796093022208 := by omega
  have hb : b.length ≤ 8796093022208 := by omega
  have ha' : (a.map toSh).length ≤ 8796093022208 := by simpa using ha
  have hb' : (b.map toSh).length ≤ 8796093022208 := by simpa using hb
  have hd := mulM_len p (a.map toSh) (b.map toSh)
  have hr : (mulM p (a.map toSh) (b.map toSh)).1.length ≤ 35184372088832 := Nat.le_trans hd (by omega)
  have hr' : (mulM p (a.map toSh) (b.map toSh)).1.length ≤ 8796093022208 := Nat.le_trans hd (by omega)
  unfold laws_FnExactMultiplyShares.f
  obtain ⟨v, hv⟩ := laws_szShareS.ex a 1048576
  refine Ev.bindc hv ?_
  by_cases hb1 : v < 0
  · exact Ev.pos hb1 (Ev.now _)
  obtain ⟨u, hu⟩ := laws_szShareS.ex b v
  refine Ev.neg hb1 (Ev.bindc hu ?_)
  by_cases hb2 : u < 0
  · exact Ev.pos hb2 (Ev.now _)
  · refine Ev.neg hb2 (Ev.bind (laws_toShareS.ev a ha) (Ev.bind (laws_toShareS.ev b hb) (Ev.bind (spec_MultiplyShares.ev p _ _ ha' hb') (Ev.bind (laws_toShareS.ev a ha) (Ev.bind (laws_toShareS.ev b hb) (Ev.bind (impl_MultiplyShares.ev p _ _ ha' hb') (Ev.bind (laws_eqShareS.ev _ hr') (Ev.pos rfl (Ev.succ ?_)))))))))
    simp only [laws_FnExactMultiplyShares.j0]
    refine Ev.neg (by simp) (Ev.bind (laws_toShareS.ev a ha) (Ev.bind (laws_eqShareS.ev _ ha') (Ev.pos (by simp) (Ev.bind (laws_toShareS.ev b hb) (Ev.bind (laws_eqShareS.ev _ hb') (Ev.pos (by simp) ?_))))))
    refine Ev.bind (laws_markShareS.ev _ 1 (Nat.le_trans ha' (by omega)) (by omega) (by omega)) (Ev.bind (laws_markShareS.ev _ _ (Nat.le_trans hb' (by omega)) (by omega) (by simp only [List.length_map]; omega)) ?_)
    refine Ev.neg (by simp only [List.length_map]; omega) (Ev.bind (laws_eqShareS.ev _ hr') (Ev.pos (by simp) (Ev.succ ?_)))
    simp only [laws_FnExactMultiplyShares.j1]
    refine Ev.neg (by simp) (Ev.bind (laws_markShareS.ev _ 1 hr (by omega) (by omega)) (Ev.bind (laws_heldShareS.ev _ 1 hr (by omega) (by omega)) ?_))
    refine Ev.neg (by omega) (Ev.pos rfl (Ev.bind (laws_toShareS.ev a ha) (Ev.bind (laws_toShareS.ev b hb) (Ev.bind (impl_MultiplyShares.ev p _ _ ha' hb') (Ev.bind (laws_eqShareS.ev _ hr') (Ev.pos (by simp) (Ev.succ ?_)))))))
    simp only [laws_FnExactMultiplyShares.j2]
    exact Ev.neg (by simp) (Ev.bind (laws_heldShareS.ev _ 1 hr (by omega) (by omega)) (Ev.neg (by omega) (Ev.pos rfl (Ev.now _))))

end Go.Proofs.Ytemdeeepamnbcaa.Pure
