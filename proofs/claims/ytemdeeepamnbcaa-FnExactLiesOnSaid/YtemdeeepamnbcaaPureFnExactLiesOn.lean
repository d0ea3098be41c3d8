/- The program's LiesOn returns what the reference's returns, for all arguments; no conditions. -/
import Derived.Test.YtemdeeepamnbcaaQFnExactLiesOn
set_option linter.unusedVariables false
set_option maxRecDepth 100000
namespace Go.Proofs.Ytemdeeepamnbcaa.Pure
open Go.RowKit Go.Proofs.Ytemdeeepamnbcaa.PFnExactLiesOn Go.Proofs.YtemdeeepamnbcaaW.PrintWords Go.Proofs.YtemdeeepamnbcaaW.PrintLast Go.Proofs.Ytemdeeepamnbcaa.M

theorem FnExactLiesOn : laws_FnExactLiesOn.Pure := by
  intro p l g hp hm hs hw hg
  refine Ev.rounds (g := fun k => laws_FnExactLiesOn.f k p l g) ?_
  have hl : l.length ≤ 8796093022208 := by omega
  have hl' : (l.map toSh).length ≤ 8796093022208 := by simpa using hl
  unfold laws_FnExactLiesOn.f
  obtain ⟨v, hv⟩ := laws_szShareS.ex l 1048576
  refine Ev.bindc hv ?_
  by_cases hb : v < 0
  · exact Ev.pos hb (Ev.now _)
  · refine Ev.neg hb ?_
    repeat (first | exact Ev.now _ | refine Ev.bind (laws_toShareS.ev l hl) ?_ | refine Ev.bind (spec_LiesOn.ev p _ g hl') ?_ | refine Ev.bind (impl_LiesOn.ev p _ g hl') ?_ | refine Ev.bind (laws_eqShareS.ev _ hl') ?_ | refine Ev.pos (by first | rfl | (simp; done) | omega | (simp only [List.length_map]; omega)) ?_ | refine Ev.neg (by first | (simp; done) | omega | (simp only [List.length_map]; omega)) ?_ | (refine Ev.succ ?_; simp only [laws_FnExactLiesOn.j0]))

end Go.Proofs.Ytemdeeepamnbcaa.Pure
