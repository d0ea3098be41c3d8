/- The weights of points give the value of each curve of a lesser degree than there are points, and their sum is 1; for all arguments; no conditions. -/
import Derived.Test.YtonpikcbmgmchaaQFnWeightsFor
set_option linter.unusedVariables false
set_option maxRecDepth 100000
namespace Go.Proofs.Ytonpikcbmgmchaa.Pure
open Go.RowKit Go.Proofs.Ytonpikcbmgmchaa.PFnWeightsFor Go.Proofs.YtonpikcbmgmchaaW.PrintWords Go.Proofs.YtonpikcbmgmchaaW.PrintLast Go.Proofs.Ytonpikcbmgmchaa.M

theorem sum_one {p : Int} (hp : isPr p = true) {P : List Int} (hP : Dst p P) (h : 1 ≤ P.length) (x : Int) : (wM p P x).sum % p = 1 := by
  have hb := isPr_bd hp
  have h1 := weights_exact hp hP (c := [1]) (by simpa using h) x
  have e : ∀ l m : List Int, l.length = m.length → sumM l (m.map (fun y => pe [1] y)) = l.sum := by
    intro l
    induction l with
    | nil => intro m _; rfl
    | cons a l ih =>
      intro m hm
      cases m with
      | nil => simp at hm
      | cons b m =>
        rw [List.map_cons]
        have := ih m (by simpa using hm)
        simp only [sumM, List.sum_cons]
        rw [this]
        simp [pe]
  rw [e _ _ (by rw [wM_length])] at h1
  have h2 := h1.emod_eq
  rw [h2]
  simp [pe]
  exact Int.emod_eq_of_lt (by omega) (by omega)
theorem loop (p x0 : Int) (hp : isPr p = true) (c : List Int) (hc : isCurve p c = true) (P W : List Int) (hP : isPts p P = true) (hW : allR p W = true) (hl : W.length = P.length) (v : Int)
    (hv : (sumM W (P.map (fun y => cval p c y))) % p = v) (hs : W.sum % p = 1) :
    ∀ (d i : Nat) (s a : Int), i + d = P.length → 0 ≤ s → s < p → 0 ≤ a → a < p → (s + sumM (W.drop i) ((P.map (fun y => cval p c y)).drop i)) % p = v → (a + (W.drop i).sum) % p = 1 → Ev (fun k => laws_FnWeightsFor.l0 k p c P W v s a (i : Int)) true := by
  have hb := isPr_bd hp
  obtain ⟨hl10, _, hmem⟩ := isPts_of hP
  obtain ⟨_, hc7, hcr, _⟩ := isCurve_of hc
  intro d
  induction d with
  | zero =>
    intro i s a hi s0 s1 a0 a1 e1 e2
    refine Ev.succ ?_
    simp only [laws_FnWeightsFor.l0]
    rw [drop_end (l := W) (by omega)] at e1 e2
    simp only [sumM, List.sum_nil, Int.add_zero] at e1 e2
    rw [Int.emod_eq_of_lt s0 s1] at e1
    rw [Int.emod_eq_of_lt a0 a1] at e2
    exact Ev.neg (by omega) (Ev.pos e1 (Ev.eq (Ev.now _) (by rw [e2]; rfl)))
  | succ d ih =>
    intro i s a hi s0 s1 a0 a1 e1 e2
    have hlt : i < P.length := by omega
    have hw : i < W.length := by omega
    have hv' : i < (P.map (fun y => cval p c y)).length := by simpa using hlt
    have hy := hmem _ (List.getElem_mem hlt)
    have hwr := allR_get hW i hw
    have cb := cval_bd (p := p) (by omega) c P[i]
    have m := mul_bd cb.1 (show _ ≤ 31 by omega) hwr.1 (show _ ≤ 31 by omega)
    rw [drop_get hw, drop_get hv'] at e1
    rw [drop_get hw] at e2
    simp only [sumM, List.getElem_map, List.sum_cons] at e1 e2
    refine Ev.succ ?_
    simp only [laws_FnWeightsFor.l0]
    rw [rd_get P i hlt, rd_get W i hw, w64 (n := (i : Int) + 1) (by omega) (by omega)]
    refine Ev.pos (by omega) (Ev.pos (by omega) (Ev.bind (impl_CurveAt.ev p c P[i] (by omega)) ?_))
    rw [if_pos hc, if_pos (by omega)]
    refine Ev.pos rfl (Ev.pos (by omega) (Ev.neg (by omega) ?_))
    simp only
    rw [w64 (n := cval p c P[i] * W[i]) (by omega) (by omega), w64 (n := s + cval p c P[i] * W[i]) (by omega) (by omega), w64 (n := a + W[i]) (by omega) (by omega), tmod_of (by omega), tmod_of (by omega)]
    have b1 := emod_bd (p := p) (by omega) (s + cval p c P[i] * W[i])
    have b2 := emod_bd (p := p) (by omega) (a + W[i])
    refine ih (i + 1) _ _ (by omega) b1.1 b1.2 b2.1 b2.2 ?_ ?_
    · rw [← e1]
      apply Cg.emod_eq
      exact ((Cg.mod p _).add (Cg.refl p _)).trans (Cg.of_eq (by grind))
    · rw [← e2]
      apply Cg.emod_eq
      exact ((Cg.mod p _).add (Cg.refl p _)).trans (Cg.of_eq (by grind))
theorem FnWeightsFor : laws_FnWeightsFor.Pure := by
  intro l m hl1 hl2 hl3 hm1 hm2 hm3
  refine Ev.rounds (g := fun k => laws_FnWeightsFor.f k l m) ?_
  have bl := isBytes_of hl3
  have bm := isBytes_of hm3
  have yes : Ev (fun k => laws_FnWeightsFor.j0 k l m true) true := by
    refine Ev.succ ?_
    simp only [laws_FnWeightsFor.j0]
    exact Ev.pos (by simp) (Ev.now _)
  have main : Ev (fun k => laws_FnWeightsFor.j0 k l m false) true := by
    refine Ev.succ ?_
    simp only [laws_FnWeightsFor.j0]
    obtain ⟨p, ep, hp, h5⟩ := spec_P6Prime.ok l bl
    have hb := isPr_bd hp
    obtain ⟨c, ec, hc, hc4⟩ := spec_P6Curve.ok l bl p hp 3 (by omega)
    obtain ⟨_, hc7, hcr, _⟩ := isCurve_of hc
    obtain ⟨P, eP, hP, hPn⟩ := spec_P6Points.ok m bm p ((c.length : Int) + 1) (by omega) (by omega)
    obtain ⟨x, ex, x0, x1⟩ := spec_P6Pick.ok m bm p (by omega)
    obtain ⟨hl10, _, hmem⟩ := isPts_of hP
    have hD := Dst.of_pts hP
    have hlen : c.length ≤ P.length := by omega
    have hpos : 1 ≤ P.length := by omega
    have hW : weightsForM p P x = (wM p P x, 0) := by
      unfold weightsForM
      rw [if_pos hp, if_pos ⟨hP, by omega, by omega⟩, if_neg (by omega)]
    have hC : (if isCurve p c = true then (if 0 ≤ x ∧ x ≤ p - 1 then (cval p c x, 0) else (0, 2)) else (0, 1)) = ((cval p c x, 0) : Int × Int) := by
      rw [if_pos hc, if_pos (by omega)]
    refine Ev.neg (by simp) (Ev.bindc ep (Ev.bind ec ?_))
    rw [w64 (n := (c.length : Int) + 1) (by omega) (by omega)]
    refine Ev.bind eP (Ev.bindc ex (Ev.bind (impl_WeightsFor.ev p P x (by omega)) (Ev.bind (spec_WeightsFor.ev p P x (by omega)) (Ev.bind (impl_CurveAt.ev p c x (by omega)) ?_))))
    rw [hW, hC]
    refine Ev.pos rfl (Ev.pos rfl (Ev.pos rfl (Ev.bind (laws_f6ints.ev _ (by simp only [wM_length]; omega)) (Ev.succ ?_))))
    simp only [laws_FnWeightsFor.j1]
    refine Ev.neg (by simp) ?_
    have hall := wM_all (p := p) (by omega) P x
    have hsum := sum_one hp hD hpos x
    have hval : (sumM (wM p P x) (P.map (fun y => cval p c y))) % p = cval p c x := by
      have h1 := weights_exact hp hD hlen x
      have h2 : ∀ (w : List Int) (q : List Int), Cg p (sumM w (q.map (fun y => cval p c y))) (sumM w (q.map (fun y => pe c y))) := by
        intro w
        induction w with
        | nil => intro q; exact Cg.refl p _
        | cons a w ih =>
          intro q
          cases q with
          | nil => exact Cg.refl p _
          | cons b q =>
            rw [List.map_cons, List.map_cons]
            simp only [sumM]
            exact ((Cg.refl p a).mul (cval_pe p b c)).add (ih q)
      have h3 := ((h2 (wM p P x) P).trans (h1.trans (cval_pe p x c).symm)).emod_eq
      have cb := cval_bd (p := p) (by omega) c x
      rw [h3, Int.emod_eq_of_lt cb.1 cb.2]
    exact loop p x hp c hc P (wM p P x) hP hall (wM_length p P x) (cval p c x) hval hsum P.length 0 0 0 (by omega) (by omega) (by omega) (by omega) (by omega) (by simpa using hval) (by simpa using hsum)
  unfold laws_FnWeightsFor.f
  refine Ev.bindc (a := decide ((l.length : Int) > 4096)) rfl ?_
  by_cases h1 : (l.length : Int) > 4096
  · exact Ev.pos (decide_eq_true h1) yes
  · refine Ev.neg (by rw [decide_eq_false h1]; exact Bool.false_ne_true) (Ev.bindc (a := decide ((m.length : Int) > 4096)) rfl ?_)
    by_cases h2 : (m.length : Int) > 4096
    · rw [decide_eq_true h2]; exact yes
    · rw [decide_eq_false h2]; exact main

end Go.Proofs.Ytonpikcbmgmchaa.Pure
