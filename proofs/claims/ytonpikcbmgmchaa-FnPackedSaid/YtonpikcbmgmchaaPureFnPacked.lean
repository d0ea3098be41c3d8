/- Packed secrets: as the reference packs them; their shares give the secrets back, and the masks are the curve's values; for all arguments; no conditions. -/
import Derived.Test.YtonpikcbmgmchaaQFnPacked
set_option linter.unusedVariables false
set_option maxRecDepth 100000
namespace Go.Proofs.Ytonpikcbmgmchaa.Pure
open Go.RowKit Go.Proofs.Ytonpikcbmgmchaa.PFnPacked Go.Proofs.YtonpikcbmgmchaaW.PrintWords Go.Proofs.YtonpikcbmgmchaaW.PrintLast Go.Proofs.Ytonpikcbmgmchaa.M

theorem pack_get {p : Int} {n m i : Nat} (hi : i < (packP p n m).length) : (packP p n m)[i] = if i < n then p - 1 - (i : Int) else 1 + ((i - n : Nat) : Int) := by
  have h := getD_get (packP p n m) i 0 hi
  rw [← h]
  unfold packP
  rw [packP_length] at hi
  by_cases hn : i < n
  · rw [if_pos hn, List.getD_eq_getElem?_getD, List.getElem?_append_left (by simpa using hn)]
    simp [hn]
  · rw [if_neg hn, List.getD_eq_getElem?_getD, List.getElem?_append_right (by simp; omega)]
    simp only [List.length_map, List.length_range]
    rw [List.getElem?_map, List.getElem?_range (by omega)]
    rfl
theorem ploop (p : Int) (hp : isPr p = true) (T masks : List Int) (hT : isCurve p T = true) (hm : masks.length ≤ 4) (h5 : 5 ≤ p) (hv : ∀ (i : Nat) (h : i < masks.length), cval p T ((i : Int) + 1) = masks[i]) :
    ∀ (d i : Nat), i + d = masks.length → Ev (fun k => laws_FnPacked.l0 k p masks T (i : Int)) true := by
  have hb := isPr_bd hp
  obtain ⟨_, h7, _, _⟩ := isCurve_of hT
  intro d
  induction d with
  | zero =>
    intro i hi
    refine Ev.succ ?_
    simp only [laws_FnPacked.l0]
    exact Ev.neg (by omega) (Ev.now _)
  | succ d ih =>
    intro i hi
    have hlt : i < masks.length := by omega
    refine Ev.succ ?_
    simp only [laws_FnPacked.l0]
    rw [w64 (n := (i : Int) + 1) (by omega) (by omega), rd_get masks i hlt]
    refine Ev.pos (by omega) (Ev.bind (impl_CurveAt.ev p T ((i : Int) + 1) (by omega)) ?_)
    rw [if_pos hT, if_pos (by omega), hv i hlt]
    exact Ev.pos rfl (Ev.pos (by omega) (Ev.pos rfl (ih (i + 1) (by omega))))
theorem FnPacked : laws_FnPacked.Pure := by
  intro l m hl1 hl2 hl3 hm1 hm2 hm3
  refine Ev.rounds (g := fun k => laws_FnPacked.f k l m) ?_
  have bl := isBytes_of hl3
  have bm := isBytes_of hm3
  have yes : Ev (fun k => laws_FnPacked.j0 k l m true) true := by
    refine Ev.succ ?_
    simp only [laws_FnPacked.j0]
    exact Ev.pos (by simp) (Ev.now _)
  have main : Ev (fun k => laws_FnPacked.j0 k l m false) true := by
    refine Ev.succ ?_
    simp only [laws_FnPacked.j0]
    obtain ⟨p, ep, hp, h5⟩ := spec_P6Prime.ok l bl
    have hb := isPr_bd hp
    obtain ⟨u, eu, u0, u1⟩ := spec_P6Pick.ok l bl 2 (by omega)
    obtain ⟨A, eA, lA, rA⟩ := spec_P6Residues.ok l bl p (by omega) (1 + u) (by omega) (by omega)
    obtain ⟨v, ev, v0, v1⟩ := spec_P6Pick.ok m bm 3 (by omega)
    obtain ⟨B, eB, lB, rB⟩ := spec_P6Residues.ok m bm p (by omega) v (by omega) (by omega)
    have hn : ((A.length + B.length : Nat) : Int) ≤ p - 1 := by omega
    have h7 : A.length + B.length ≤ 7 := by omega
    have hok : packOK p A B = true := by
      unfold packOK
      rw [decide_eq_true h7, rA, rB]; rfl
    have hpk : packM p A B = (throughM p (packP p A.length B.length) (A ++ B), 0) := by
      unfold packM
      rw [if_pos hp, if_pos hok, if_neg (by omega)]
    have hD := packP_dst h7 hn
    have hlen : (packP p A.length B.length).length = (A ++ B).length := by rw [packP_length]; simp
    have hV := allR_append rA rB
    have hT : isCurve p (throughM p (packP p A.length B.length) (A ++ B)) = true := through_curve hp (by rw [packP_length]; exact h7)
    have hTl := through_len2 p (packP p A.length B.length) (A ++ B)
    have hTv := fun (i : Nat) (hi : i < (packP p A.length B.length).length) => through_val hp hD hV hlen i hi
    rw [packP_length] at hTl
    obtain ⟨_, hT7, hTr, _⟩ := isCurve_of hT
    refine Ev.neg (by simp) (Ev.bindc ep (Ev.bindc eu ?_))
    rw [w64 (n := 1 + u) (by omega) (by omega)]
    refine Ev.bind eA (Ev.bindc ev (Ev.bind eB (Ev.bind (impl_PackSecrets.ev p A B (by omega) (by omega)) (Ev.bind (spec_PackSecrets.ev p A B (by omega) (by omega)) ?_))))
    rw [hpk]
    generalize hTT : throughM p (packP p A.length B.length) (A ++ B) = T at *
    refine Ev.pos rfl (Ev.bind (laws_f6ints.ev T (by omega)) (Ev.succ ?_))
    simp only [laws_FnPacked.j1]
    rw [w64 (n := (A.length : Int) + (B.length : Int)) (by omega) (by omega)]
    obtain ⟨L, eL, hL, hLn⟩ := spec_P6Points.ok m bm p ((A.length : Int) + (B.length : Int)) (by omega) (by omega)
    have hLl : A.length + B.length ≤ L.length := by omega
    obtain ⟨hl10, _, hmem⟩ := isPts_of hL
    have hdeal : dealSM p T L = (L.map (dealM p T), 0) := by
      unfold dealSM
      rw [if_pos hT, if_pos hL]
    have e0 : (L.map (dealM p T)).map (·.f0) = L := by
      rw [List.map_map]
      have : ((fun x : S68 => x.f0) ∘ dealM p T) = id := rfl
      rw [this, List.map_id]
    have e1 : (L.map (dealM p T)).map (·.f1) = L.map (fun y => cval p T y) := by
      rw [List.map_map]; rfl
    have hS : isSh p (L.map (dealM p T)) = true := by
      unfold isSh
      rw [hp, e0, e1, hL]
      simp only [Bool.true_and, allR, List.all_eq_true]
      intro y hy
      obtain ⟨z, _, rfl⟩ := List.mem_map.1 hy
      have := cval_bd (p := p) (by omega) T z
      simp only [inR, decide_eq_true_eq]
      omega
    have hun : unpackM p (L.map (dealM p T)) (A.length : Int) = (A, 0) := by
      unfold unpackM
      rw [if_pos hS, if_pos (by omega), if_neg (by rw [List.length_map]; omega)]
      congr 1
      apply List.ext_getElem
      · simp
      · intro i h1 h2
        simp only [List.getElem_map, List.getElem_range]
        unfold openV
        rw [e0, e1, dot_exact hp (Dst.of_pts hL) (c := T) (by omega)]
        have := hTv i (by rw [packP_length]; omega)
        rw [pack_get, if_pos h2, List.getD_eq_getElem?_getD, List.getElem?_append_left h2, List.getElem?_eq_getElem h2] at this
        exact this
    refine Ev.neg (by simp) (Ev.pos (by simp) (Ev.bind eL (Ev.bind (spec_DealShares.ev p T L (by omega) (by omega)) ?_)))
    rw [hdeal]
    refine Ev.bind (impl_UnpackSecrets.ev p _ _ (by simp; omega)) ?_
    rw [hun]
    refine Ev.pos rfl (Ev.pos rfl (Ev.bind (laws_f6ints.ev A (by omega)) (Ev.pos rfl (Ev.succ ?_))))
    simp only [laws_FnPacked.j2]
    refine Ev.neg (by simp; omega) ?_
    refine ploop p hp T B hT (by omega) h5 (fun i hi => ?_) B.length 0 (by omega)
    have := hTv (A.length + i) (by rw [packP_length]; omega)
    rw [pack_get, if_neg (by omega), List.getD_eq_getElem?_getD, List.getElem?_append_right (by omega), Nat.add_sub_cancel_left, List.getElem?_eq_getElem hi, Int.add_comm] at this
    exact this
  unfold laws_FnPacked.f
  refine Ev.bindc (a := decide ((l.length : Int) > 4096)) rfl ?_
  by_cases h1 : (l.length : Int) > 4096
  · exact Ev.pos (decide_eq_true h1) yes
  · refine Ev.neg (by rw [decide_eq_false h1]; exact Bool.false_ne_true) (Ev.bindc (a := decide ((m.length : Int) > 4096)) rfl ?_)
    by_cases h2 : (m.length : Int) > 4096
    · rw [decide_eq_true h2]; exact yes
    · rw [decide_eq_false h2]; exact main

end Go.Proofs.Ytonpikcbmgmchaa.Pure
