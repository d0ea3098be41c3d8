/- As many shares as the degree tell nothing, one more tells the secret, and all curves together are counted; for all arguments; no conditions. -/
import Derived.Test.YtonpikcbmgmchaaQFnSecrecy
set_option linter.unusedVariables false
set_option maxRecDepth 100000
namespace Go.Proofs.Ytonpikcbmgmchaa.Pure
open Go.RowKit Go.Proofs.Ytonpikcbmgmchaa.PFnSecrecy Go.Proofs.YtonpikcbmgmchaaW.PrintWords Go.Proofs.YtonpikcbmgmchaaW.PrintLast Go.Proofs.Ytonpikcbmgmchaa.M

theorem sum_const (c : Int) : ∀ m : Nat, ((List.range m).map (fun _ : Nat => c)).sum = (m : Int) * c
  | 0 => by simp
  | m + 1 => by
    rw [List.range_succ, List.map_append, List.sum_append, sum_const c m]
    simp only [List.map_cons, List.map_nil, List.sum_cons, List.sum_nil]
    have : ((m + 1 : Nat) : Int) = (m : Int) + 1 := by omega
    rw [this]; grind
theorem sum_one_at (s : Nat) : ∀ m : Nat, ((List.range m).map (fun i : Nat => if i = s then (1 : Int) else 0)).sum = if s < m then 1 else 0
  | 0 => by simp
  | m + 1 => by
    rw [List.range_succ, List.map_append, List.sum_append, sum_one_at s m]
    simp only [List.map_cons, List.map_nil, List.sum_cons, List.sum_nil]
    by_cases h : m = s
    · subst h; simp
    · rw [if_neg h]
      by_cases h2 : s < m
      · rw [if_pos h2, if_pos (by omega)]; rfl
      · rw [if_neg h2, if_neg (by omega)]; rfl
theorem sl1 (p : Int) (hp : 5 ≤ p ∧ p ≤ 31) (S : List S68) (D : List Int) (n : Nat) (σ : Int) (hσ : n ≤ 3 → σ = p ^ (4 - n)) (hσ' : 4 ≤ n → σ = 1)
    (hopen : 4 ≤ n → ∃ v : Int, 0 ≤ v ∧ v < p ∧ Ev (fun k => impl_OpenAt.f k p S 0) (v, 0) ∧ v < (D.length : Int) ∧ rd D v = 1) :
    ∀ (d i e : Nat), (i + d = 4 ∨ (d = 0 ∧ 4 ≤ i ∧ e = 0)) → n + e = i → Ev (fun k => laws_FnSecrecy.l1 k p 3 S D (n : Int) σ (p ^ e) (i : Int)) true := by
  intro d
  induction d with
  | zero =>
    intro i e hi he
    refine Ev.succ ?_
    simp only [laws_FnSecrecy.l1]
    refine Ev.neg (by omega) ?_
    by_cases h : n ≤ 3
    · have : e = 4 - n := by omega
      rw [hσ h, this]
      exact Ev.pos rfl (Ev.pos (by omega) (Ev.now _))
    · have h0 : e = 0 := by omega
      rw [hσ' (by omega), h0]
      obtain ⟨v, v0, v1, ev, v2, v3⟩ := hopen (by omega)
      refine Ev.pos (by simp) (Ev.neg (by omega) (Ev.bind ev (Ev.pos rfl (Ev.pos v0 (Ev.pos v1 (Ev.pos v0 (Ev.pos v2 (Ev.eq (Ev.now _) ?_))))))))
      simp only
      rw [v3]; rfl
  | succ d ih =>
    intro i e hi he
    have b := pow_bd7 (p := p) (by omega) (by omega) (e + 1) (by omega)
    rw [Int.pow_succ] at b
    refine Ev.succ ?_
    simp only [laws_FnSecrecy.l1]
    rw [w64 (n := p ^ e * p) (by omega) (by omega), w64 (n := (i : Int) + 1) (by omega) (by omega), ← Int.pow_succ]
    exact Ev.pos (by omega) (ih (i + 1) (e + 1) (by omega) (by omega))
theorem sl0 (p : Int) (hp : 5 ≤ p ∧ p ≤ 31) (S : List S68) (D : List Int) (n : Nat) (hn : n ≤ 10) (hD : (D.length : Int) = p) (hb : ∀ x ∈ D, 0 ≤ x ∧ x ≤ 30000) (hall : n ≤ 3 → ∀ i (h : i < D.length), D[i] = rd D 0)
    (hout : Ev (fun k => laws_FnSecrecy.l1 k p 3 S D (n : Int) D.sum 1 (n : Int)) true) :
    ∀ (d i : Nat), i + d = D.length → ∀ s, 0 ≤ s → s ≤ 30000 * (i : Int) → s + (D.drop i).sum = D.sum → Ev (fun k => laws_FnSecrecy.l0 k p 3 S D (n : Int) s (i : Int)) true := by
  intro d
  induction d with
  | zero =>
    intro i hi s s0 s1 hs
    rw [drop_end (by omega), List.sum_nil, Int.add_zero] at hs
    subst hs
    refine Ev.succ ?_
    simp only [laws_FnSecrecy.l0]
    exact Ev.neg (by omega) hout
  | succ d ih =>
    intro i hi s s0 s1 hs
    have hlt : i < D.length := by omega
    have hx := hb _ (List.getElem_mem hlt)
    rw [drop_get hlt, List.sum_cons] at hs
    refine Ev.succ ?_
    simp only [laws_FnSecrecy.l0]
    rw [rd_get D i hlt, w64 (n := (i : Int) + 1) (by omega) (by omega), w64 (n := s + D[i]) (by omega) (by omega)]
    have nx := ih (i + 1) (by omega) (s + D[i]) (by omega) (by omega) (by omega)
    refine Ev.pos (by omega) ?_
    by_cases h : (n : Int) ≤ 3
    · exact Ev.pos h (Ev.pos (by omega) (Ev.pos (by omega) (Ev.pos (by omega) (Ev.pos (hall (by omega) i hlt) nx))))
    · exact Ev.neg h (Ev.pos (by omega) (Ev.pos (by omega) nx))
theorem FnSecrecy : laws_FnSecrecy.Pure := by
  intro l m hl1 hl2 hl3 hm1 hm2 hm3
  refine Ev.rounds (g := fun k => laws_FnSecrecy.f k l m) ?_
  have bl := isBytes_of hl3
  have bm := isBytes_of hm3
  have yes : Ev (fun k => laws_FnSecrecy.j0 k l m true) true := by
    refine Ev.succ ?_
    simp only [laws_FnSecrecy.j0]
    exact Ev.pos (by simp) (Ev.now _)
  have main : Ev (fun k => laws_FnSecrecy.j0 k l m false) true := by
    refine Ev.succ ?_
    simp only [laws_FnSecrecy.j0]
    obtain ⟨p, ep, hp, h5⟩ := spec_P6Prime.ok l bl
    have hb := isPr_bd hp
    obtain ⟨c, ec, hc, hc4⟩ := spec_P6Curve.ok l bl p hp 3 (by omega)
    obtain ⟨P, eP, hP, _⟩ := spec_P6Points.ok m bm p 0 (by omega) (by omega)
    obtain ⟨hl10, _, hmem⟩ := isPts_of hP
    obtain ⟨_, hc7, hcr, hcz⟩ := isCurve_of hc
    have hdeal : dealSM p c P = (P.map (dealM p c), 0) := by
      unfold dealSM
      rw [if_pos hc, if_pos hP]
    have e0 : (P.map (dealM p c)).map (·.f0) = P := by
      rw [List.map_map]
      have : ((fun x : S68 => x.f0) ∘ dealM p c) = id := rfl
      rw [this, List.map_id]
    have e1 : (P.map (dealM p c)).map (·.f1) = P.map (fun y => cval p c y) := by
      rw [List.map_map]; rfl
    have hV : allR p (P.map (fun y => cval p c y)) = true := by
      unfold allR
      rw [List.all_eq_true]
      intro y hy
      obtain ⟨z, _, rfl⟩ := List.mem_map.1 hy
      have := cval_bd (p := p) (by omega) c z
      simp only [inR, decide_eq_true_eq]
      omega
    have hS : isSh p (P.map (dealM p c)) = true := by
      unfold isSh
      rw [hp, e0, e1, hP, hV]; rfl
    have hcnt : countM p (P.map (dealM p c)) 3 = ((List.range p.toNat).map (cntAt p (P.map (dealM p c)) 3), 0) := by
      unfold countM
      rw [if_pos hS, if_pos (by omega)]
    have sb := cval_bd (p := p) (by omega) c 0
    have few : P.length ≤ 3 → cntAt p (P.map (dealM p c)) 3 = fun _ => p ^ (3 - P.length) := by
      intro h
      funext i
      unfold cntAt
      rw [List.length_map, if_pos (by omega), show ((3 : Int) - (P.length : Int)).toNat = 3 - P.length by omega]
    have enough : 4 ≤ P.length → cntAt p (P.map (dealM p c)) 3 = fun i : Nat => if (i : Int) < p ∧ i = (cval p c 0).toNat then 1 else cntAt p (P.map (dealM p c)) 3 i := by
      intro h
      funext i
      by_cases hi : (i : Int) < p ∧ i = (cval p c 0).toNat
      · rw [if_pos hi]
        unfold cntAt
        rw [List.length_map, if_neg (by omega), e0, e1]
        have e2 : ((i : Int) :: P.map (fun y => cval p c y)) = ((0 : Int) :: P).map (fun y => cval p c y) := by
          rw [List.map_cons, show (i : Int) = cval p c 0 by omega]
        rw [e2, through_back hp (dst0 hP (by omega)) hcr hcz (by simp; omega), if_pos (by omega)]
      · rw [if_neg hi]
    have zero : 4 ≤ P.length → ∀ i : Nat, (i : Int) < p → i ≠ (cval p c 0).toNat → cntAt p (P.map (dealM p c)) 3 i = 0 := by
      intro h i hip hne
      unfold cntAt
      rw [List.length_map, if_neg (by omega), e0, e1]
      by_cases ht : ((throughM p ((0 : Int) :: P) ((i : Int) :: P.map (fun y => cval p c y))).length : Int) ≤ 3 + 1
      · exfalso
        have hD0 := dst0 hP (show 2 ≤ p by omega)
        have hV0 := allR_consI (p := p) (a := (i : Int)) (by omega) hip hV
        have hl0 : ((0 : Int) :: P).length = ((i : Int) :: P.map (fun y => cval p c y)).length := by simp
        have tv := fun (j : Nat) (hj : j < ((0 : Int) :: P).length) => through_val hp hD0 hV0 hl0 j hj
        generalize throughM p ((0 : Int) :: P) ((i : Int) :: P.map (fun y => cval p c y)) = T at *
        have ag := agree_pe hp (Dst.of_pts hP) (c := T) (d := c) (by omega) (by omega) (fun y hy => by
          obtain ⟨j, hj, rfl⟩ := List.getElem_of_mem hy
          have := tv (j + 1) (by simpa using hj)
          simp only [List.getElem_cons_succ, List.getD_cons_succ] at this
          rw [getD_get _ _ _ (by simpa using hj), List.getElem_map] at this
          exact (cval_pe p _ T).symm.trans ((Cg.of_eq this).trans (cval_pe p _ c))) 0
        have h0 := tv 0 (by simp)
        simp only [List.getElem_cons_zero, List.getD_cons_zero] at h0
        have tb := cval_bd (p := p) (by omega) T 0
        have := ((cval_pe p 0 T).trans (ag.trans (cval_pe p 0 c).symm)).eq tb.1 tb.2 sb.1 sb.2
        omega
      · rw [if_neg ht]
    have one : 4 ≤ P.length → (List.range p.toNat).map (cntAt p (P.map (dealM p c)) 3) = (List.range p.toNat).map (fun i : Nat => if i = (cval p c 0).toNat then (1 : Int) else 0) := by
      intro h
      refine List.map_congr_left (fun i hi => ?_)
      have hi' := List.mem_range.1 hi
      by_cases e : i = (cval p c 0).toNat
      · rw [if_pos e, congrFun (enough h) i, if_pos ⟨by omega, e⟩]
      · rw [if_neg e]
        exact zero h i (by omega) e
    have open0 : 4 ≤ P.length → openAtM p (P.map (dealM p c)) 0 = (cval p c 0, 0) := by
      intro h
      unfold openAtM
      rw [if_pos hS, if_pos (by omega), List.length_map, e0, e1, if_neg (by omega), dot_exact hp (Dst.of_pts hP) (c := c) (by omega)]
    have hsum : (P.length ≤ 3 → ((List.range p.toNat).map (cntAt p (P.map (dealM p c)) 3)).sum = p ^ (4 - P.length)) ∧ (4 ≤ P.length → ((List.range p.toNat).map (cntAt p (P.map (dealM p c)) 3)).sum = 1) := by
      refine ⟨fun h => ?_, fun h => ?_⟩
      · rw [few h, sum_const, show 4 - P.length = (3 - P.length) + 1 by omega, Int.pow_succ, show ((p.toNat : Nat) : Int) = p by omega, Int.mul_comm]
      · rw [one h, sum_one_at, if_pos (by omega)]
    have hbd : ∀ x ∈ (List.range p.toNat).map (cntAt p (P.map (dealM p c)) 3), 0 ≤ x ∧ x ≤ 30000 := by
      intro x hx
      rcases Nat.lt_or_ge 3 P.length with h | h
      · rw [one h] at hx
        obtain ⟨i, _, rfl⟩ := List.mem_map.1 hx
        split <;> omega
      · rw [few h] at hx
        obtain ⟨i, _, rfl⟩ := List.mem_map.1 hx
        have b := pow_bd (p := p) (by omega) (by omega) (3 - P.length)
        have q : ∀ e : Fin 4, (31 : Int) ^ e.val ≤ 30000 := by decide
        have := q ⟨3 - P.length, by omega⟩
        simp only at this
        omega
    have hcon : P.length ≤ 3 → ∀ i (h : i < ((List.range p.toNat).map (cntAt p (P.map (dealM p c)) 3)).length), ((List.range p.toNat).map (cntAt p (P.map (dealM p c)) 3))[i] = rd ((List.range p.toNat).map (cntAt p (P.map (dealM p c)) 3)) 0 := by
      intro h i hi
      have hl : 0 < ((List.range p.toNat).map (cntAt p (P.map (dealM p c)) 3)).length := by omega
      have r0 := rd_get ((List.range p.toNat).map (cntAt p (P.map (dealM p c)) 3)) 0 hl
      rw [show (((0 : Nat) : Int)) = (0 : Int) from rfl] at r0
      rw [r0, List.getElem_map, List.getElem_map, congrFun (few h) _, congrFun (few h) _]
    have hrd : 4 ≤ P.length → rd ((List.range p.toNat).map (cntAt p (P.map (dealM p c)) 3)) (cval p c 0) = 1 := by
      intro h
      have hl : (cval p c 0).toNat < ((List.range p.toNat).map (cntAt p (P.map (dealM p c)) 3)).length := by simp; omega
      have r0 := rd_get _ (cval p c 0).toNat hl
      rw [show (((cval p c 0).toNat : Nat) : Int) = cval p c 0 by omega] at r0
      rw [r0, List.getElem_map, List.getElem_range, congrFun (enough h) _, if_pos ⟨by omega, rfl⟩]
    refine Ev.neg (by simp) (Ev.bindc ep (Ev.bind ec (Ev.bind eP (Ev.bind (spec_DealShares.ev p c P (by omega) (by omega)) ?_))))
    rw [hdeal]
    refine Ev.bind (impl_CountSecrets.ev p _ 3 (by simp; omega)) (Ev.bind (spec_CountSecrets.ev p _ 3 (by simp; omega)) ?_)
    rw [hcnt]
    generalize hDD : (List.range p.toNat).map (cntAt p (P.map (dealM p c)) 3) = D at *
    have hDl : (D.length : Int) = p := by rw [← hDD]; simp; omega
    refine Ev.pos rfl (Ev.pos rfl (Ev.pos rfl (Ev.bind (laws_f6ints.ev D (by omega)) (Ev.pos rfl (Ev.succ ?_)))))
    simp only [laws_FnSecrecy.j1]
    refine Ev.neg (by simp; omega) ?_
    refine sl0 p ⟨h5, hb.2⟩ _ D P.length (by omega) hDl hbd hcon ?_ D.length 0 (by omega) 0 (by omega) (by omega) (by simp)
    have := sl1 p ⟨h5, hb.2⟩ (P.map (dealM p c)) D P.length D.sum hsum.1 hsum.2 (fun h => ⟨cval p c 0, sb.1, sb.2, by rw [← open0 h]; exact impl_OpenAt.ev p _ 0 (by simp; omega), by omega, hrd h⟩)
      (4 - P.length) P.length 0 (by omega) (by omega)
    simpa using this
  unfold laws_FnSecrecy.f
  refine Ev.bindc (a := decide ((l.length : Int) > 4096)) rfl ?_
  by_cases h1 : (l.length : Int) > 4096
  · exact Ev.pos (decide_eq_true h1) yes
  · refine Ev.neg (by rw [decide_eq_false h1]; exact Bool.false_ne_true) (Ev.bindc (a := decide ((m.length : Int) > 4096)) rfl ?_)
    by_cases h2 : (m.length : Int) > 4096
    · rw [decide_eq_true h2]; exact yes
    · rw [decide_eq_false h2]; exact main

end Go.Proofs.Ytonpikcbmgmchaa.Pure
