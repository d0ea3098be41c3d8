/- The program's OpenAt returns what the reference's returns, for all arguments; no conditions. -/
import Derived.Test.YtemdeeepamnbcaaQFnExactOpenAt
set_option linter.unusedVariables false
set_option maxRecDepth 100000
namespace Go.Proofs.Ytemdeeepamnbcaa.Pure
open Go.RowKit Go.Proofs.Ytemdeeepamnbcaa.PFnExactOpenAt Go.Proofs.YtemdeeepamnbcaaW.PrintWords Go.Proofs.YtemdeeepamnbcaaW.PrintLast Go.Proofs.Ytemdeeepamnbcaa.M

theorem FnExactOpenAt : laws_FnExactOpenAt.Pure := by
  intro p l x hp hm hs hw hx
  refine Ev.rounds (g := fun k => laws_FnExactOpenAt.f k p l x) ?_
  have hl : l.length ≤ 8796093022208 := by omega
  have hl' : (l.map toSh).length ≤ 8796093022208 := by simpa using hl
  unfold laws_FnExactOpenAt.f
  obtain ⟨v, hv⟩ := laws_szShareS.ex l 1048576
  refine Ev.bindc hv ?_
  by_cases hb : v < 0
  · exact Ev.pos hb (Ev.now _)
  · refine Ev.neg hb (Ev.bind (laws_toShareS.ev l hl) (Ev.bind (spec_OpenAt.ev p _ x hl') (Ev.bind (laws_toShareS.ev l hl) (Ev.bind (impl_OpenAt.ev p _ x hl') (Ev.pos rfl (Ev.succ ?_))))))
    simp only [laws_FnExactOpenAt.j0]
    exact Ev.neg (by simp) (Ev.bind (laws_toShareS.ev l hl) (Ev.bind (laws_eqShareS.ev _ hl') (Ev.pos rfl (Ev.now _))))

end Go.Proofs.Ytemdeeepamnbcaa.Pure
