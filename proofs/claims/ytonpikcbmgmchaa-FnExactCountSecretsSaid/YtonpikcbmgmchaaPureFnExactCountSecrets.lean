/- The program's CountSecrets returns what the reference's returns, for all arguments, and its result stands by itself; no conditions. -/
import Derived.Test.YtonpikcbmgmchaaQFnExactCountSecrets
set_option linter.unusedVariables false
set_option maxRecDepth 100000
namespace Go.Proofs.Ytonpikcbmgmchaa.Pure
open Go.RowKit Go.Proofs.Ytonpikcbmgmchaa.PFnExactCountSecrets Go.Proofs.YtonpikcbmgmchaaW.PrintWords Go.Proofs.YtonpikcbmgmchaaW.PrintLast Go.Proofs.Ytonpikcbmgmchaa.M

theorem FnExactCountSecrets : laws_FnExactCountSecrets.Pure := by
  intro p l n hp hm hs hw hn
  refine Ev.rounds (g := fun k => laws_FnExactCountSecrets.f k p l n) ?_
  have hl : l.length ≤ 8796093022208 := by omega
  have hl' : (l.map toSh).length ≤ 8796093022208 := by simpa using hl
  have hl2 : (l.map toSh).length ≤ 35184372088832 := Nat.le_trans hl' (by omega)
  have hr : (countM p (l.map toSh) n).1.length ≤ 35184372088832 := Nat.le_trans (countM_len p _ n) (by omega)
  unfold laws_FnExactCountSecrets.f
  obtain ⟨v, hv⟩ := laws_szShareS.ex l 1048576
  refine Ev.bindc hv ?_
  by_cases hb : v < 0
  · exact Ev.pos hb (Ev.now _)
  · refine Ev.neg hb ?_
    repeat (first | exact Ev.now _ | refine Ev.bind (laws_toShareS.ev l hl) ?_ | refine Ev.bind (spec_CountSecrets.ev p _ n hl') ?_ | refine Ev.bind (impl_CountSecrets.ev p _ n hl') ?_ | refine Ev.bind (laws_eqInt64S.ev _ _ hr) ?_ | refine Ev.bind (laws_eqShareS.ev _ hl') ?_ | refine Ev.bind (laws_markShareS.ev _ 1 hl2 (by omega) (by omega)) ?_ | refine Ev.bind (laws_markInt64S.ev _ 1 hr (by omega) (by omega)) ?_ | refine Ev.bind (laws_heldInt64S.ev _ 1 hr (by omega) (by omega)) ?_ | refine Ev.pos (by first | rfl | (simp; done) | omega | (simp only [List.length_map]; omega)) ?_ | refine Ev.neg (by first | (simp; done) | omega | (simp only [List.length_map]; omega)) ?_ | (refine Ev.succ ?_; simp only [laws_FnExactCountSecrets.j0]) | (refine Ev.succ ?_; simp only [laws_FnExactCountSecrets.j1]) | (refine Ev.succ ?_; simp only [laws_FnExactCountSecrets.j2]))

end Go.Proofs.Ytonpikcbmgmchaa.Pure
