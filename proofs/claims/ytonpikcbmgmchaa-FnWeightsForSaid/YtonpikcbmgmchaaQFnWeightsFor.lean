/- Lemmas on what the printed functions compute. -/
import Derived.Test.YtonpikcbmgmchaaM
import Derived.Test.YtonpikcbmgmchaaI
import Derived.Test.YtonpikcbmgmchaaPFnWeightsForx0
import Derived.Test.YtonpikcbmgmchaaPFnWeightsForx1
import Derived.Test.YtonpikcbmgmchaaPFnWeightsForx2
import Derived.Test.YtonpikcbmgmchaaPFnWeightsForx3
import Derived.Test.YtonpikcbmgmchaaPFnWeightsForx4
import Derived.Test.YtonpikcbmgmchaaPFnWeightsForx5
import Derived.Test.YtonpikcbmgmchaaPFnWeightsForx6
set_option linter.unusedVariables false
set_option linter.unusedSimpArgs false
set_option maxRecDepth 100000
namespace Go.Proofs.Ytonpikcbmgmchaa.PFnWeightsFor
open Go.RowKit Go.Proofs.YtonpikcbmgmchaaW.PrintWords Go.Proofs.YtonpikcbmgmchaaW.PrintLast Go.Proofs.Ytonpikcbmgmchaa.M

-- words
theorem impl_areElements.one (p x : Int) (hp : isPr p = true) : (isPr p && allR p [x]) = decide (0 ≤ x ∧ x ≤ p - 1) := by
  rw [hp]; simp only [allR, List.all_cons, List.all_nil, Bool.and_true, Bool.true_and]; rfl
theorem isPts_at (p : Int) (l : List Int) : (decide (l.length ≤ 10) && risesAt 1 (p - 1) l 0) = isPts p l := by
  rw [risesAt_all, isPts, Bool.and_comm (l.all _)]
def isBytes (l : List Int) : Prop := ∀ x ∈ l, 0 ≤ x ∧ x ≤ 255
theorem isBytes_of {l : List Int} (h : ∀ x ∈ l, (Lit.int .u8 x).wf = true) : isBytes l := fun x hx => wf8 (h x hx)
def inP (p : Int) (l : List Int) : Prop := l.Pairwise (· < ·) ∧ ∀ x ∈ l, 1 ≤ x ∧ x ≤ p - 1
theorem inP_put {p x : Int} {l : List Int} (h : inP p l) (hx : 1 ≤ x ∧ x ≤ p - 1) : inP p (putM l x) := by
  refine ⟨putM_pairwise x h.1, fun z hz => ?_⟩
  rcases (putM_mem z x l).1 hz with rfl | hz
  · exact hx
  · exact h.2 z hz
def weightsForM (p : Int) (l : List Int) (x : Int) : List Int × Int := if isPr p = true then (if isPts p l = true ∧ 0 ≤ x ∧ x ≤ p - 1 then (if l.length = 0 then ([], 4) else (wM p l x, 0)) else ([], 2)) else ([], 1)
theorem weightsForM_len (p : Int) (l : List Int) (x : Int) : (weightsForM p l x).1.length ≤ 10 := by
  unfold weightsForM
  split
  · split
    · split
      · simp
      · rename_i h _
        have := isPts_of h.1
        simp only [wM_length]
        omega
    · simp
  · simp
theorem impl_areElements.on (p x : Int) (hp : isPr p = true) : (isPr p && allR p [x]) = decide (0 ≤ x ∧ x ≤ p - 1) := by
  rw [hp]; simp only [allR, List.all_cons, List.all_nil, Bool.and_true, Bool.true_and]; rfl

-- spec_l00Src_next
theorem spec_l00Src_next.ok (l : List Int) (hb : isBytes l) (a s N : Int) (h0 : 0 ≤ a) (h1 : a ≤ N) (hN : N ≤ 4611686018427387904) : ∃ v a' s', spec_l00Src_next.f l a s = some (v, a', s') ∧ 0 ≤ v ∧ v ≤ 255 ∧ 0 ≤ a' ∧ a' ≤ N + 1 := by
  unfold spec_l00Src_next.f
  by_cases c1 : a < (l.length : Int)
  · have hr := hb _ (rd_mem h0 c1)
    rw [if_pos c1, if_pos h0, w64 (n := a + 1) (by omega) (by omega)]
    split
    · exact ⟨_, _, _, rfl, by rw [w64 (by omega) (by omega)]; omega, by rw [w64 (by omega) (by omega)]; omega, by omega, by omega⟩
    · exact ⟨_, _, _, rfl, (low8 _).1, (low8 _).2, by omega, by omega⟩
  · rw [if_neg c1, w64 (n := a + 1) (by omega) (by omega)]
    split
    · exact ⟨_, _, _, rfl, by omega, by omega, by omega, by omega⟩
    · exact ⟨_, _, _, rfl, (low8 _).1, (low8 _).2, by omega, by omega⟩

-- spec_l00Src_pick
theorem spec_l00Src_pick.ok (l : List Int) (hb : isBytes l) (a s n N : Int) (h0 : 0 ≤ a) (h1 : a ≤ N) (hN : N ≤ 4611686018427387900) : ∃ v a' s', spec_l00Src_pick.f l a s n = some (v, a', s') ∧ 0 ≤ v ∧ (1 ≤ n → v < n) ∧ 0 ≤ a' ∧ a' ≤ N + 2 := by
  unfold spec_l00Src_pick.f
  by_cases c1 : n ≤ 1
  · rw [if_pos c1]
    exact ⟨_, _, _, rfl, by omega, by omega, by omega, by omega⟩
  · rw [if_neg c1]
    obtain ⟨v, a1, s1, e1, v0, v1, b0, b1⟩ := spec_l00Src_next.ok l hb a s N h0 h1 (by omega)
    rw [e1]
    simp only [Option.bind_some]
    by_cases c2 : n > 200
    · rw [if_pos c2]
      obtain ⟨v2, a2, s2, e2, v20, v21, b20, b21⟩ := spec_l00Src_next.ok l hb a1 s1 (N + 1) b0 b1 (by omega)
      rw [e2]
      simp only [Option.bind_some]
      rw [if_neg (by omega), w64 (n := v * 256) (by omega) (by omega), w64 (n := v * 256 + v2) (by omega) (by omega), tmod_of (by omega)]
      have := emod_bd (p := n) (by omega) (v * 256 + v2)
      exact ⟨_, _, _, rfl, this.1, fun _ => this.2, by omega, by omega⟩
    · rw [if_neg c2, if_neg (by omega), tmod_of v0]
      have := emod_bd (p := n) (by omega) v
      exact ⟨_, _, _, rfl, this.1, fun _ => this.2, by omega, by omega⟩

-- spec_l00Src_among
theorem spec_l00Src_among.ok (l : List Int) (hb : isBytes l) (a s N : Int) (h0 : 0 ≤ a) (h1 : a ≤ N) (hN : N ≤ 4611686018427387900) (m : List Int) (hm : 0 < m.length) : ∃ v a' s', spec_l00Src_among.f l a s m = some (v, a', s') ∧ v ∈ m ∧ 0 ≤ a' ∧ a' ≤ N + 2 := by
  unfold spec_l00Src_among.f
  obtain ⟨v, a1, s1, e1, v0, v1, b0, b1⟩ := spec_l00Src_pick.ok l hb a s (m.length : Int) N h0 h1 hN
  have v2 := v1 (by omega)
  rw [e1]
  simp only [Option.bind_some]
  rw [if_pos v0, if_pos v2]
  exact ⟨_, _, _, rfl, rd_mem v0 v2, b0, b1⟩

-- spec_P6Prime
theorem spec_P6Prime.ok (l : List Int) (hb : isBytes l) : ∃ p, spec_P6Prime.f l = some p ∧ isPr p = true ∧ 5 ≤ p := by
  unfold spec_P6Prime.f spec_l00From.f
  simp only [Option.bind_some]
  obtain ⟨v, a1, s1, e1, hv, _⟩ := spec_l00Src_among.ok l hb 0 0 0 (by omega) (by omega) (by omega) [5, 7, 11, 13] (by decide)
  rw [e1]
  refine ⟨v, rfl, ?_⟩
  simp only [List.mem_cons, List.mem_nil_iff, or_false] at hv
  rcases hv with rfl | rfl | rfl | rfl <;> exact ⟨by decide, by decide⟩

-- spec_l00Own
theorem spec_l00Own.eq (l : List Int) (hl : l.length < 17592186044416) : spec_l00Own.f l = some l := by
  unfold spec_l00Own.f
  rw [Option.bind_some, if_pos (by simpa using hl), List.nil_append]

-- spec_l05Cut
theorem spec_l05Cut.ev_l (l : List Int) (hl : l.length ≤ 8796093022208) : ∀ (n : Nat), n ≤ l.length → Ev (fun k => spec_l05Cut.l0 k l (n : Int)) (cutTo l n) := by
  intro n
  induction n with
  | zero =>
    intro hn
    refine Ev.succ ?_
    simp only [spec_l05Cut.l0]
    refine Ev.neg (by omega) (Ev.pos (by omega) (Ev.pos (by omega) (Ev.bindc (spec_l00Own.eq _ (by simp)) (Ev.eq (Ev.now _) ?_))))
    simp [cutTo]
  | succ n ih =>
    intro hn
    have hlt : n < l.length := by omega
    have e : ((n + 1 : Nat) : Int) - 1 = (n : Int) := by omega
    refine Ev.succ ?_
    simp only [spec_l05Cut.l0]
    rw [w64 (n := ((n + 1 : Nat) : Int) - 1) (by omega) (by omega), e, rd_get l n hlt]
    refine Ev.pos (by omega) (Ev.pos (by omega) (Ev.pos (by omega) ?_))
    unfold cutTo
    rw [getD_get l n 0 hlt]
    by_cases h : l[n] = 0
    · rw [if_pos h]
      exact Ev.pos h (ih (by omega))
    · rw [if_neg h]
      refine Ev.neg h (Ev.pos (by omega) (Ev.pos (by omega) (Ev.bindc (spec_l00Own.eq _ (by simp; omega)) (Ev.eq (Ev.now _) ?_))))
      rfl
theorem spec_l05Cut.ev (l : List Int) (hl : l.length ≤ 8796093022208) : Ev (fun k => spec_l05Cut.f k l) (stripM l) := by
  unfold spec_l05Cut.f
  exact spec_l05Cut.ev_l l hl l.length (Nat.le_refl _)

-- spec_l00Max
theorem spec_l00Max.eq (a b : Int) : spec_l00Max.f a b = some (if a > b then a else b) := by
  unfold spec_l00Max.f
  split <;> rfl

-- spec_l05Many
theorem spec_l05Many.ok_l (l : List Int) (hb : isBytes l) (p n : Int) (hp : 1 ≤ p) (hn : n ≤ 1000) : ∀ (d i : Nat) (acc : List Int) (a s N : Int), ((i + d : Nat) : Int) = n → acc.length = i → allR p acc = true → 0 ≤ a → a ≤ N → N + 2 * (d : Int) ≤ 4611686018427387000 →
    ∃ r a' s', Ev (fun k => spec_l05Many.l0 k p n acc (i : Int) l a s) (r, a', s') ∧ r.length = i + d ∧ allR p r = true ∧ 0 ≤ a' ∧ a' ≤ N + 2 * (d : Int) := by
  intro d
  induction d with
  | zero =>
    intro i acc a s N hi ha hr h0 h1 hN
    refine ⟨acc, a, s, Ev.succ ?_, by omega, hr, h0, by omega⟩
    simp only [spec_l05Many.l0]
    exact Ev.neg (by omega) (Ev.now _)
  | succ d ih =>
    intro i acc a s N hi ha hr h0 h1 hN
    have hM : (if p > 1 then p else 1) = p := by split <;> omega
    obtain ⟨v, a1, s1, e1, v0, v1, b0, b1⟩ := spec_l00Src_pick.ok l hb a s p N h0 h1 (by omega)
    have hr' : allR p (acc ++ [v]) = true := by
      unfold allR at *
      rw [List.all_append, hr]
      have := v1 hp
      simp [inR]; omega
    obtain ⟨r, a2, s2, e2, r1, r2, r3, r4⟩ := ih (i + 1) (acc ++ [v]) a1 s1 (N + 2) (by omega) (by simp [ha]) hr' b0 b1 (by omega)
    refine ⟨r, a2, s2, Ev.succ ?_, by omega, r2, r3, by omega⟩
    simp only [spec_l05Many.l0]
    rw [w64 (n := (i : Int) + 1) (by omega) (by omega)]
    refine Ev.pos (by omega) (Ev.bindc (spec_l00Max.eq _ _) ?_)
    rw [hM]
    exact Ev.bindc e1 (Ev.pos (by omega) e2)
theorem spec_l05Many.ok (l : List Int) (hb : isBytes l) (p : Int) (n : Nat) (hp : 1 ≤ p) (hn : n ≤ 1000) (a s N : Int) (h0 : 0 ≤ a) (h1 : a ≤ N) (hN : N ≤ 4611686018427380000) :
    ∃ r a' s', Ev (fun k => spec_l05Many.f k l a s p (n : Int)) (r, a', s') ∧ r.length = n ∧ allR p r = true ∧ 0 ≤ a' ∧ a' ≤ N + 2 * (n : Int) := by
  obtain ⟨r, a', s', e, h⟩ := spec_l05Many.ok_l l hb p n hp (by omega) n 0 [] a s N (by omega) rfl rfl h0 h1 (by omega)
  exact ⟨r, a', s', e, by simpa using h⟩

-- spec_P6Curve
theorem spec_P6Curve.ok (l : List Int) (hb : isBytes l) (p : Int) (hp : isPr p = true) (m : Int) (hm : 0 ≤ m ∧ m ≤ 6) : ∃ c, Ev (fun k => spec_P6Curve.f k l p m) c ∧ isCurve p c = true ∧ (c.length : Int) ≤ m + 1 := by
  have hpb := isPr_bd hp
  obtain ⟨v, a1, s1, e1, v0, v1, b0, b1⟩ := spec_l00Src_pick.ok l hb 0 0 (m + 1) 0 (by omega) (by omega) (by omega)
  have v2 := v1 (by omega)
  obtain ⟨r, a2, s2, e2, r1, r2, _⟩ := spec_l05Many.ok l hb p (v + 1).toNat (by omega) (by omega) a1 s1 2 b0 (by omega) (by omega)
  rw [show (((v + 1).toNat : Nat) : Int) = v + 1 by omega] at e2
  have hl := stripM_le r
  refine ⟨stripM r, ?_, isCurve_mk hp (by omega) (allR_strip r2) (lastNZ_strip r), by omega⟩
  unfold spec_P6Curve.f
  rw [w64 (n := m + 1) (by omega) (by omega)]
  refine Ev.bindc rfl (Ev.bindc e1 ?_)
  rw [w64 (n := v + 1) (by omega) (by omega)]
  exact Ev.bind e2 (Ev.bind (spec_l05Cut.ev r (by omega)) (Ev.now _))

-- spec_l00Put
theorem spec_l00Put.ev_l (l : List Int) (x : Int) (hl : l.length ≤ 1000000) : ∀ (d i : Nat) (o : List Int) (b : Bool), i + d = l.length → o.length ≤ i + 1 → (b = false → o.length ≤ i) → Ev (fun k => spec_l00Put.l0 k l x o b (i : Int)) (o ++ if b = true then l.drop i else putM (l.drop i) x) := by
  intro d
  induction d with
  | zero =>
    intro i o b hi ho hob
    refine Ev.succ ?_
    simp only [spec_l00Put.l0]
    rw [drop_end (by omega)]
    refine Ev.neg (by omega) ?_
    cases b with
    | true => exact Ev.pos rfl (Ev.eq (Ev.now _) (by simp))
    | false => exact Ev.neg Bool.false_ne_true (Ev.pos (by omega) (Ev.eq (Ev.now _) (by simp [putM])))
  | succ d ih =>
    intro i o b hi ho hob
    have hlt : i < l.length := by omega
    have jn : ∀ (c b' : Bool), (c = true → b = false ∧ l[i] ≥ x) → (c = false → b = true ∨ l[i] < x) → b' = b → Ev (fun k => spec_l00Put.j1 k l x o b' (i : Int) c) (o ++ if b = true then l.drop i else putM (l.drop i) x) := by
      intro c b' h1 h2 hbb
      subst hbb
      refine Ev.succ ?_
      simp only [spec_l00Put.j1, Option.bind_some]
      rw [rd_get l i hlt, w64 (n := (i : Int) + 1) (by omega) (by omega), drop_get hlt]
      cases c with
      | true =>
        obtain ⟨e1, e2⟩ := h1 rfl
        subst e1
        refine Ev.pos rfl (Ev.pos (by omega) (Ev.pos (by omega) ?_))
        rw [if_neg Bool.false_ne_true]
        unfold putM
        rw [if_neg (by omega)]
        by_cases h : l[i] = x
        · rw [if_pos h]
          refine Ev.neg (by omega) (Ev.pos (by omega) (Ev.eq (ih (i + 1) _ true (by omega) (by simp; have := hob rfl; omega) (fun h => by cases h)) ?_))
          rw [if_pos rfl, List.append_assoc]; rfl
        · rw [if_neg h]
          refine Ev.pos (by omega) (Ev.pos (by omega) (Ev.pos (by simp; omega) ?_))
          refine Ev.eq (ih (i + 1) (o ++ [x] ++ [l[i]]) true (by omega) (by have := hob rfl; simp; omega) (fun h => by cases h)) ?_
          rw [if_pos rfl, List.append_assoc, List.append_assoc]; rfl
      | false =>
        refine Ev.neg Bool.false_ne_true (Ev.pos (by omega) (Ev.pos (by omega) (Ev.pos (by omega) (Ev.eq (ih (i + 1) _ b' (by omega) (by simp; omega) (fun h => by have := hob h; simp; omega)) ?_))))
        rw [List.append_assoc]
        cases b' with
        | true => rfl
        | false =>
          rw [if_neg Bool.false_ne_true, if_neg Bool.false_ne_true]
          have := (h2 rfl).resolve_left (by simp)
          conv => rhs; unfold putM
          rw [if_pos this]
          rfl
    refine Ev.succ ?_
    simp only [spec_l00Put.l0]
    refine Ev.pos (by omega) ?_
    cases b with
    | true => exact Ev.pos (by first | rfl | simp) (jn false true (fun h => by cases h) (fun _ => Or.inl rfl) rfl)
    | false =>
      refine Ev.neg Bool.false_ne_true (Ev.pos (by omega) ?_)
      rw [rd_get l i hlt]
      refine jn _ false (fun h => ⟨rfl, by simpa using h⟩) (fun h => Or.inr (by simpa using h)) rfl
theorem spec_l00Put.ev (l : List Int) (x : Int) (hl : l.length ≤ 1000000) : Ev (fun k => spec_l00Put.f k l x) (putM l x) := by
  unfold spec_l00Put.f
  exact Ev.eq (spec_l00Put.ev_l l x hl l.length 0 [] false (by omega) (by simp) (by simp)) (by simp)

-- spec_P6Points
theorem spec_P6Points.l1_ok (p n : Int) (hp : p ≤ 31) (hn : n ≤ 10) : ∀ (d : Nat) (x : Int) (o : List Int), x + (d : Int) = p → 1 ≤ x → inP p o → (o.length : Int) ≤ 10 → (∀ y, 1 ≤ y → y < x → y ∈ o ∨ n ≤ (o.length : Int)) →
    ∃ L, Ev (fun k => spec_P6Points.l1 k p n o x) L ∧ inP p L ∧ (L.length : Int) ≤ 10 ∧ (n ≤ (L.length : Int) ∨ p - 1 ≤ (L.length : Int)) := by
  intro d
  induction d with
  | zero =>
    intro x o hx h1 hP hl ha
    refine ⟨o, Ev.succ ?_, hP, hl, ?_⟩
    · simp only [spec_P6Points.l1]
      by_cases h : (o.length : Int) < n
      · exact Ev.pos h (Ev.neg (by omega) (Ev.now _))
      · exact Ev.neg h (Ev.now _)
    · by_cases h : n ≤ (o.length : Int)
      · exact Or.inl h
      · right
        have := all_len (p - 1).toNat o (fun y a b => (ha y a (by omega)).resolve_right h)
        omega
  | succ d ih =>
    intro x o hx h1 hP hl ha
    by_cases h : (o.length : Int) < n
    · have hlen := putM_len x o
      obtain ⟨L, e, q1, q2, q3⟩ := ih (x + 1) (putM o x) (by omega) (by omega) (inP_put hP (by omega)) (by omega) (fun y a b => by
        by_cases hy : y = x
        · exact Or.inl ((putM_mem y x o).2 (Or.inl hy))
        · rcases ha y a (by omega) with h2 | h2
          · exact Or.inl ((putM_mem y x o).2 (Or.inr h2))
          · omega)
      refine ⟨L, Ev.succ ?_, q1, q2, q3⟩
      simp only [spec_P6Points.l1]
      rw [w64 (n := x + 1) (by omega) (by omega)]
      exact Ev.pos h (Ev.pos (by omega) (Ev.bind (spec_l00Put.ev o x (by omega)) e))
    · refine ⟨o, Ev.succ ?_, hP, hl, Or.inl (by omega)⟩
      simp only [spec_P6Points.l1]
      exact Ev.neg h (Ev.now _)
theorem spec_P6Points.l0_ok (l : List Int) (hb : isBytes l) (p n : Int) (hp : 5 ≤ p ∧ p ≤ 31) (hn : n ≤ 10) : ∀ (d : Nat) (o : List Int) (a s N : Int), inP p o → o.length + d ≤ 10 → 0 ≤ a → a ≤ N → N + 2 * (d : Int) ≤ 1000000 →
    ∃ L, Ev (fun k => spec_P6Points.l0 k p n o (d : Int) l a s) L ∧ inP p L ∧ (L.length : Int) ≤ 10 ∧ (n ≤ (L.length : Int) ∨ p - 1 ≤ (L.length : Int)) := by
  intro d
  induction d with
  | zero =>
    intro o a s N hP hl h0 h1 hN
    obtain ⟨L, e, q⟩ := spec_P6Points.l1_ok p n (by omega) hn (p - 1).toNat 1 o (by omega) (by omega) hP (by omega) (fun y a b => by omega)
    refine ⟨L, Ev.succ ?_, q⟩
    simp only [spec_P6Points.l0]
    exact Ev.neg (by omega) e
  | succ d ih =>
    intro o a s N hP hl h0 h1 hN
    obtain ⟨v, a1, s1, e1, v0, v1, b0, b1⟩ := spec_l00Src_pick.ok l hb a s (p - 1) N h0 h1 (by omega)
    have v2 := v1 (by omega)
    have hlen := putM_len (1 + v) o
    obtain ⟨L, e, q⟩ := ih (putM o (1 + v)) a1 s1 (N + 2) (inP_put hP (by omega)) (by omega) b0 b1 (by omega)
    refine ⟨L, Ev.succ ?_, q⟩
    simp only [spec_P6Points.l0]
    rw [w64 (n := p - 1) (by omega) (by omega)]
    refine Ev.pos (by omega) (Ev.bindc e1 ?_)
    rw [w64 (n := 1 + v) (by omega) (by omega), w64 (n := ((d + 1 : Nat) : Int) - 1) (by omega) (by omega), show ((d + 1 : Nat) : Int) - 1 = (d : Int) by omega]
    exact Ev.bind (spec_l00Put.ev o (1 + v) (by omega)) e
theorem spec_P6Points.ok (l : List Int) (hb : isBytes l) (p n : Int) (hp : 5 ≤ p ∧ p ≤ 31) (hn : n ≤ 10) : ∃ L, Ev (fun k => spec_P6Points.f k l p n) L ∧ isPts p L = true ∧ (n ≤ (L.length : Int) ∨ p - 1 ≤ (L.length : Int)) := by
  obtain ⟨v, a1, s1, e1, v0, v1, b0, b1⟩ := spec_l00Src_pick.ok l hb 0 0 6 0 (by omega) (by omega) (by omega)
  have v2 := v1 (by omega)
  obtain ⟨L, e, q1, q2, q3⟩ := spec_P6Points.l0_ok l hb p n hp hn v.toNat [] a1 s1 2 ⟨List.Pairwise.nil, fun _ h => by cases h⟩ (by simp; omega) b0 (by omega) (by omega)
  rw [show ((v.toNat : Nat) : Int) = v by omega] at e
  refine ⟨L, ?_, isPts_mk (by omega) q1.1 q1.2, q3⟩
  unfold spec_P6Points.f
  exact Ev.bindc rfl (Ev.bindc e1 e)

-- spec_P6Pick
theorem spec_P6Pick.ok (l : List Int) (hb : isBytes l) (n : Int) (hn : 1 ≤ n) : ∃ v, spec_P6Pick.f l n = some v ∧ 0 ≤ v ∧ v < n := by
  unfold spec_P6Pick.f spec_l00From.f
  simp only [Option.bind_some]
  obtain ⟨v, a1, s1, e1, v0, v1, b0, b1⟩ := spec_l00Src_pick.ok l hb 0 0 n 0 (by omega) (by omega) (by omega)
  rw [e1]
  exact ⟨v, rfl, v0, v1 hn⟩

-- impl_within
theorem impl_within.eq (a b c : Int) : impl_within.f a b c = some (decide (b ≤ a ∧ a ≤ c)) := by
  unfold impl_within.f
  by_cases h : a ≥ b
  · have : b ≤ a := h
    simp [h, this]
  · have : ¬ b ≤ a := h
    simp [this]

-- impl_IsPrime
theorem impl_IsPrime.small : ∀ n : Fin 32, 2 ≤ n.val → impl_IsPrime.f 40 (n.val : Int) = some (isPr (n.val : Int)) := by decide +kernel
theorem impl_IsPrime.ev (p : Int) : Ev (fun k => impl_IsPrime.f k p) (isPr p) := by
  by_cases h : 2 ≤ p ∧ p ≤ 31
  · obtain ⟨n, rfl⟩ : ∃ n : Nat, p = n := ⟨p.toNat, by omega⟩
    exact Ev.of (fun k => impl_IsPrime.mono _ k) (impl_IsPrime.small ⟨n, by omega⟩ (by simp only; omega))
  · have hw : impl_within.f p 2 31 = some false := by rw [impl_within.eq, decide_eq_false h]
    rcases (show p < 2 ∨ 2 ≤ p by omega) with h1 | h1
    · rw [isPr_small h1]
      refine Ev.congr (fun k => by unfold impl_IsPrime.f; rfl) (Ev.succ ?_)
      simp only [impl_IsPrime.l0]
      refine Ev.neg (by rw [w64 (by omega) (by omega)]; omega) (Ev.succ ?_)
      simp only [impl_IsPrime.j1, hw]
      exact ⟨0, fun k _ => rfl⟩
    · rw [isPr_big (by omega)]
      refine Ev.congr (fun k => by unfold impl_IsPrime.f; rfl) (Ev.succ ?_)
      simp only [impl_IsPrime.l0]
      have hd : decide (p ≤ 31) = false := decide_eq_false (by omega)
      rw [hd]
      refine Ev.pos (by rw [w64 (by omega) (by omega)]; omega) (Ev.succ ?_)
      simp only [impl_IsPrime.j1, hw]
      exact ⟨0, fun k _ => rfl⟩

-- impl_areElements_1
theorem impl_areElements_1.eq (x p : Int) (hp : -9223372036854775807 ≤ p) (hp' : p ≤ 9223372036854775807) : impl_areElements_1.f x [p] = some (!inR p x) := by
  unfold impl_areElements_1.f
  have e : rd [p] 0 = p := rfl
  rw [e, w64 (n := p - 1) (by omega) (by omega), impl_within.eq]
  rfl

-- slices_IndexFunc_int64_int64_at_impl_areElements_1
theorem slices_IndexFunc_int64_int64_at_impl_areElements_1.ev_l (p : Int) (hp : -9223372036854775807 ≤ p) (hp' : p ≤ 9223372036854775807) (l : List Int) (hl : l.length ≤ 9223372036854775806) : ∀ (d i : Nat), i + d = l.length → Ev (fun k => slices_IndexFunc_int64_int64_at_impl_areElements_1.l0 k l (l.length : Int) (i : Int) [p]) (idxFrom (fun x => !inR p x) (l.drop i) (i : Int)) := by
  intro d
  induction d with
  | zero =>
    intro i hi
    refine Ev.succ ?_
    simp only [slices_IndexFunc_int64_int64_at_impl_areElements_1.l0]
    rw [List.drop_of_length_le (by omega)]
    exact Ev.neg (by omega) (Ev.now _)
  | succ d ih =>
    intro i hi
    refine Ev.succ ?_
    simp only [slices_IndexFunc_int64_int64_at_impl_areElements_1.l0]
    refine Ev.pos (by omega) (Ev.pos (by omega) (Ev.pos (by omega) ?_))
    have hlt : i < l.length := by omega
    rw [rd_get l i hlt, impl_areElements_1.eq _ p hp hp', w64 (n := (i : Int) + 1) (by omega) (by omega), List.drop_eq_getElem_cons hlt]
    simp only [Option.bind_some, idxFrom]
    by_cases hx : (!inR p l[i]) = true
    · refine Ev.pos hx ?_
      rw [if_pos hx]
      exact Ev.now _
    · refine Ev.neg hx ?_
      rw [if_neg hx]
      exact ih (i + 1) (by omega)

-- slices_ContainsFunc_int64_int64_at_impl_areElements_1
theorem slices_ContainsFunc_int64_int64_at_impl_areElements_1.ev (p : Int) (hp : -9223372036854775807 ≤ p) (hp' : p ≤ 9223372036854775807) (l : List Int) (hl : l.length ≤ 9223372036854775806) : Ev (fun k => slices_ContainsFunc_int64_int64_at_impl_areElements_1.f k l [p]) (!allR p l) := by
  unfold slices_ContainsFunc_int64_int64_at_impl_areElements_1.f slices_IndexFunc_int64_int64_at_impl_areElements_1.f
  refine Ev.bind (slices_IndexFunc_int64_int64_at_impl_areElements_1.ev_l p hp hp' l hl l.length 0 (by omega)) ?_
  refine Ev.eq (Ev.now _) ?_
  rw [idxFrom_any _ _ _ (by omega), List.drop_zero, not_allR]

-- impl_areElements
theorem impl_areElements.ev (p : Int) (l : List Int) (hl : l.length ≤ 9223372036854775806) : Ev (fun k => impl_areElements.f k p l) (isPr p && allR p l) := by
  unfold impl_areElements.f
  refine Ev.bind (impl_IsPrime.ev p) ?_
  cases h : isPr p with
  | false => exact Ev.neg Bool.false_ne_true (Ev.now _)
  | true =>
    have := isPr_bd h
    refine Ev.pos rfl ?_
    refine Ev.bind (slices_ContainsFunc_int64_int64_at_impl_areElements_1.ev p (by omega) (by omega) l hl) ?_
    refine Ev.eq (Ev.now _) ?_
    rw [Bool.not_not, Bool.true_and]

-- impl_inverse
theorem impl_inverse.small : ∀ p a : Fin 32, isPr (p.val : Int) = true → 1 ≤ a.val → a.val < p.val → impl_inverse.f 40 (p.val : Int) (a.val : Int) = some (invM p.val a.val) := by decide +kernel
theorem impl_inverse.ev {p a : Int} (hp : isPr p = true) (h0 : 1 ≤ a) (h1 : a < p) : Ev (fun k => impl_inverse.f k p a) (invM p a) := by
  have hb := isPr_bd hp
  obtain ⟨p, rfl⟩ : ∃ n : Nat, p = n := ⟨p.toNat, by omega⟩
  obtain ⟨a, rfl⟩ : ∃ n : Nat, a = n := ⟨a.toNat, by omega⟩
  exact Ev.of (fun k => impl_inverse.mono _ _ k) (impl_inverse.small ⟨p, by omega⟩ ⟨a, by omega⟩ hp (by simp only; omega) (by simp only; omega))

-- impl_weights
theorem impl_weights.in_l (p x : Int) (hp : isPr p = true) (hx : 0 ≤ x ∧ x ≤ p - 1) (l : List Int) (hl : isPts p l = true) (i : Nat) (hi : i < l.length) (acc : List Int) (hacc : acc.length = i) (R : Int → List Int)
    (hout : ∀ w, Ev (fun k => impl_weights.l0 k p l x (acc ++ [w]) l (l.length : Int) ((i + 1 : Nat) : Int)) (R w)) :
    ∀ (d j : Nat) (w a b : Int), j + d = l.length → 0 ≤ w → w < p → 0 ≤ a → a < p → 1 ≤ b → b < p → Cg p (w * b) a → Ev (fun k => impl_weights.l1 k p l x acc (i : Int) l[i] a b l (l.length : Int) (i : Int) l (l.length : Int) (j : Int)) (R (skipFold (wS p x (l.getD i 0)) i j (l.drop j) w)) := by
  have hb := isPr_bd hp
  obtain ⟨hl10, hris, hmem⟩ := isPts_of hl
  have hgi : l.getD i 0 = l[i] := by simp [hi]
  intro d
  induction d with
  | zero =>
    intro j w a b hj h0 h1 a0 a1 b0 b1 hc
    refine Ev.succ ?_
    simp only [impl_weights.l1]
    have e3 := invM_bd hp (show 0 ≤ b by omega) b1
    have m2 := mul_bd a0 (show a ≤ 31 by omega) e3.1 (show _ ≤ 31 by omega)
    refine Ev.neg (by omega) (Ev.bind (impl_inverse.ev hp b0 b1) (Ev.neg (by omega) (Ev.pos (by omega) ?_)))
    rw [drop_end (by omega), w64 (n := (i : Int) + 1) (by omega) (by omega), w64 (by omega) (by omega), tmod_of m2.1, wS_end hp ⟨b0, b1⟩ ⟨h0, h1⟩ hc]
    exact hout w
  | succ d ih =>
    intro j w a b hj h0 h1 a0 a1 b0 b1 hc
    have hlt : j < l.length := by omega
    refine Ev.succ ?_
    simp only [impl_weights.l1]
    rw [drop_get hlt, skipFold_cons, rd_get l j hlt, w64 (n := (j : Int) + 1) (by omega) (by omega)]
    have c1 := hmem _ (List.getElem_mem hlt)
    have c2 := hmem _ (List.getElem_mem hi)
    refine Ev.pos (by omega) (Ev.pos (by omega) (Ev.pos (by omega) ?_))
    by_cases hji : j = i
    · rw [if_pos hji]
      exact Ev.pos (by omega) (ih (j + 1) w a b (by omega) h0 h1 a0 a1 b0 b1 hc)
    · rw [if_neg hji]
      refine Ev.neg (by omega) (Ev.neg (by omega) ?_)
      have m1 := mul_bd a0 (show a ≤ 31 by omega) (show 0 ≤ x - l[j] + p by omega) (show _ ≤ 62 by omega)
      have m2 := mul_bd (show 0 ≤ b by omega) (show b ≤ 31 by omega) (show 0 ≤ l[i] - l[j] + p by omega) (show _ ≤ 62 by omega)
      rw [w64 (n := x - l[j]) (by omega) (by omega), w64 (n := l[i] - l[j]) (by omega) (by omega), w64 (n := x - l[j] + p) (by omega) (by omega), w64 (n := l[i] - l[j] + p) (by omega) (by omega),
        w64 (n := a * (x - l[j] + p)) (by omega) (by omega), w64 (n := b * (l[i] - l[j] + p)) (by omega) (by omega), tmod_of m1.1, tmod_of m2.1]
      have hs := wS_bd (p := p) (by omega) x l[i] w l[j]
      have st := wS_step (x := x) hp c2 c1 (pts_ne hris hi hlt hji) ⟨b0, b1⟩ hc
      have ea := emod_bd (p := p) (by omega) (a * (x - l[j] + p))
      rw [hgi]
      rw [hgi] at ih
      exact ih (j + 1) _ _ _ (by omega) hs.1 hs.2 ea.1 ea.2 st.2.1 st.2.2 st.1
theorem impl_weights.ev_l (p x : Int) (hp : isPr p = true) (hx : 0 ≤ x ∧ x ≤ p - 1) (l : List Int) (hl : isPts p l = true) : ∀ (d i : Nat) (acc : List Int), i + d = l.length → acc.length = i → Ev (fun k => impl_weights.l0 k p l x acc l (l.length : Int) (i : Int)) (acc ++ (wM p l x).drop i) := by
  obtain ⟨hl10, _, hmem⟩ := isPts_of hl
  have hb := isPr_bd hp
  intro d
  induction d with
  | zero =>
    intro i acc hi ha
    refine Ev.succ ?_
    simp only [impl_weights.l0]
    rw [drop_end (by rw [wM_length]; omega), List.append_nil]
    exact Ev.neg (by omega) (Ev.now _)
  | succ d ih =>
    intro i acc hi ha
    refine Ev.succ ?_
    simp only [impl_weights.l0]
    rw [rd_get l i (by omega)]
    refine Ev.pos (by omega) (Ev.pos (by omega) (Ev.pos (by omega) ?_))
    have := impl_weights.in_l p x hp hx l hl i (by omega) acc ha (fun w => (acc ++ [w]) ++ (wM p l x).drop (i + 1)) (fun w => ih (i + 1) _ (by omega) (by simp [ha])) l.length 0 1 1 1 (by omega) (by omega) (by omega) (by omega) (by omega) (by omega) (by omega) (Cg.refl _ _)
    refine Ev.eq this ?_
    unfold wM
    rw [range_map_drop (wAt p l x) l.length i (by omega), List.append_assoc]
    rfl
theorem impl_weights.ev (p x : Int) (hp : isPr p = true) (hx : 0 ≤ x ∧ x ≤ p - 1) (l : List Int) (hl : isPts p l = true) : Ev (fun k => impl_weights.f k p l x) (wM p l x) := by
  unfold impl_weights.f
  exact Ev.eq (impl_weights.ev_l p x hp hx l hl l.length 0 [] (by omega) rfl) (by simp)

-- impl_arePoints
theorem impl_arePoints.ev_l (p : Int) (hp : -9223372036854775807 ≤ p) (hp' : p ≤ 9223372036854775807) (l : List Int) (hl : l.length ≤ 35184372088832) : ∀ (d i : Nat), i + d = l.length → Ev (fun k => impl_arePoints.l0 k p l l (l.length : Int) (i : Int)) (risesAt 1 (p - 1) l i && decide (l.length ≤ 10)) := by
  intro d
  induction d with
  | zero =>
    intro i hi
    refine Ev.succ ?_
    simp only [impl_arePoints.l0]
    rw [risesAt_end _ _ _ _ (by omega), Bool.true_and]
    refine Ev.neg (by omega) (Ev.eq (Ev.now _) ?_)
    exact decide_eq_decide.2 (by omega)
  | succ d ih =>
    intro i hd
    have hlt : i < l.length := by omega
    refine Ev.succ ?_
    simp only [impl_arePoints.l0]
    have hn := ih (i + 1) (by omega)
    rw [rd_get l i hlt, impl_within.eq, w64 (n := (i : Int) + 1) (by omega) (by omega), w64 (n := p - 1) (by omega) (by omega)]
    refine Ev.pos (by omega) (Ev.pos (by omega) (Ev.pos (by omega) (Ev.bindc rfl ?_)))
    cases i with
    | zero =>
      rw [risesAt_zero _ _ _ hlt]
      cases hc : decide (1 ≤ l[0] ∧ l[0] ≤ p - 1) with
      | false => exact Ev.neg Bool.false_ne_true (Ev.now _)
      | true => exact Ev.pos rfl (Ev.neg (by omega) (by rw [Bool.true_and]; exact hn))
    | succ j =>
      rw [risesAt_succ _ _ _ _ hlt]
      cases hc : decide (1 ≤ l[j + 1] ∧ l[j + 1] ≤ p - 1) with
      | false => exact Ev.neg Bool.false_ne_true (Ev.now _)
      | true =>
        have e : ((j + 1 : Nat) : Int) - 1 = (j : Int) := by omega
        rw [w64 (n := ((j + 1 : Nat) : Int) - 1) (by omega) (by omega), e, rd_get l j (by omega), Bool.true_and]
        refine Ev.pos rfl (Ev.pos (by omega) (Ev.pos (by omega) (Ev.pos (by omega) ?_)))
        by_cases hx : l[j] < l[j + 1]
        · rw [decide_eq_true hx, Bool.true_and]
          exact Ev.neg (by omega) hn
        · rw [decide_eq_false hx, Bool.false_and]
          exact Ev.pos (by omega) (Ev.now _)
theorem impl_arePoints.ev (p : Int) (hp : -9223372036854775807 ≤ p) (hp' : p ≤ 9223372036854775807) (l : List Int) (hl : l.length ≤ 35184372088832) : Ev (fun k => impl_arePoints.f k p l) (isPts p l) := by
  unfold impl_arePoints.f
  refine Ev.eq (impl_arePoints.ev_l p hp hp' l hl l.length 0 (by omega)) ?_
  rw [risesAt_all, isPts, Bool.and_comm, Bool.and_comm (l.all _)]

-- impl_WeightsFor
theorem impl_WeightsFor.ev (p : Int) (l : List Int) (x : Int) (hl : l.length ≤ 35184372088832) : Ev (fun k => impl_WeightsFor.f k p l x) (weightsForM p l x) := by
  unfold impl_WeightsFor.f weightsForM
  refine Ev.bind (impl_IsPrime.ev p) ?_
  cases h : isPr p with
  | false => exact Ev.neg Bool.false_ne_true (Ev.now _)
  | true =>
    have hb := isPr_bd h
    refine Ev.pos rfl (Ev.bind (impl_arePoints.ev p (by omega) (by omega) l hl) ?_)
    rw [if_pos rfl]
    cases h2 : isPts p l with
    | false =>
      rw [if_neg (by simp)]
      refine Ev.neg Bool.false_ne_true (Ev.succ ?_)
      simp only [impl_WeightsFor.j0]
      exact Ev.pos (by simp) (Ev.now _)
    | true =>
      refine Ev.pos rfl (Ev.bind (impl_areElements.ev p [x] (by simp)) (Ev.succ ?_))
      simp only [impl_WeightsFor.j0]
      rw [impl_areElements.on p x h]
      by_cases hx : 0 ≤ x ∧ x ≤ p - 1
      · rw [if_pos ⟨by simp, hx⟩]
        refine Ev.neg (by simpa using hx) ?_
        by_cases h0 : l.length = 0
        · rw [if_pos h0]
          exact Ev.pos (by omega) (Ev.now _)
        · rw [if_neg h0]
          exact Ev.neg (by omega) (Ev.bind (impl_weights.ev p x h hx l h2) (Ev.now _))
      · rw [if_neg (fun e => hx e.2)]
        exact Ev.pos (by rw [decide_eq_false hx]; rfl) (Ev.now _)

-- spec_l00In
theorem spec_l00In.eq (a b c : Int) : spec_l00In.f a b c = some (decide (b ≤ a ∧ a ≤ c)) := by
  unfold spec_l00In.f
  by_cases h : a ≥ b
  · have : b ≤ a := h
    simp [h, this]
  · have : ¬ b ≤ a := h
    simp [this]

-- spec_l05Rest
theorem spec_l05Rest.eq (a p : Int) (hp : 0 < p) (hp' : p ≤ 31) : spec_l05Rest.f a p = some (a % p) := by
  unfold spec_l05Rest.f
  rw [if_neg (by omega), rest_eq hp hp']

-- spec_l05Inverse
theorem spec_l05Inverse.small : ∀ p a : Fin 32, isPr (p.val : Int) = true → a.val < p.val → spec_l05Inverse.f 40 (a.val : Int) (p.val : Int) = some (invM p.val a.val) := by decide +kernel
theorem spec_l05Inverse.ev {p a : Int} (hp : isPr p = true) (h0 : 0 ≤ a) (h1 : a < p) : Ev (fun k => spec_l05Inverse.f k a p) (invM p a) := by
  have hb := isPr_bd hp
  obtain ⟨p, rfl⟩ : ∃ n : Nat, p = n := ⟨p.toNat, by omega⟩
  obtain ⟨a, rfl⟩ : ∃ n : Nat, a = n := ⟨a.toNat, by omega⟩
  exact Ev.of (fun k => spec_l05Inverse.mono _ _ k) (spec_l05Inverse.small ⟨p, by omega⟩ ⟨a, by omega⟩ hp (by simp only; omega))

-- spec_l05Weights
theorem spec_l05Weights.in_l (p x : Int) (hp : isPr p = true) (hx : 0 ≤ x ∧ x ≤ p - 1) (l : List Int) (hl : isPts p l = true) (i : Nat) (hi : i < l.length) (acc : List Int) (hacc : acc.length = i) (R : Int → List Int)
    (hout : ∀ w, Ev (fun k => spec_l05Weights.l0 k p l x (acc ++ [w]) ((i + 1 : Nat) : Int)) (R w)) :
    ∀ (d j : Nat) (w : Int), j + d = l.length → 0 ≤ w → w < p → Ev (fun k => spec_l05Weights.l1 k p l x acc (i : Int) w (j : Int)) (R (skipFold (wS p x (l.getD i 0)) i j (l.drop j) w)) := by
  have hb := isPr_bd hp
  obtain ⟨hl10, _, hmem⟩ := isPts_of hl
  have hgi : l.getD i 0 = l[i] := by simp [hi]
  intro d
  induction d with
  | zero =>
    intro j w hj h0 h1
    refine Ev.succ ?_
    simp only [spec_l05Weights.l1]
    rw [drop_end (by omega), w64 (n := (i : Int) + 1) (by omega) (by omega)]
    exact Ev.neg (by omega) (Ev.pos (by omega) (hout w))
  | succ d ih =>
    intro j w hj h0 h1
    have hlt : j < l.length := by omega
    refine Ev.succ ?_
    simp only [spec_l05Weights.l1]
    rw [drop_get hlt, skipFold_cons, rd_get l j hlt, rd_get l i hi, w64 (n := (j : Int) + 1) (by omega) (by omega)]
    have b1 := hmem _ (List.getElem_mem hlt)
    have b2 := hmem _ (List.getElem_mem hi)
    refine Ev.pos (by omega) ?_
    by_cases hji : j = i
    · rw [if_pos hji]
      exact Ev.pos (by omega) (ih (j + 1) w (by omega) h0 h1)
    · rw [if_neg hji]
      refine Ev.neg (by omega) (Ev.pos (by omega) ?_)
      rw [w64 (n := x - l[j]) (by omega) (by omega), w64 (n := l[i] - l[j]) (by omega) (by omega)]
      refine Ev.bindc (spec_l05Rest.eq _ _ (by omega) (by omega)) (Ev.neg (by omega) (Ev.pos (by omega) (Ev.pos (by omega) (Ev.bindc (spec_l05Rest.eq _ _ (by omega) (by omega)) ?_))))
      have e1 := emod_bd (p := p) (by omega) (x - l[j])
      have e2 := emod_bd (p := p) (by omega) (l[i] - l[j])
      have e3 := invM_bd hp e2.1 e2.2
      refine Ev.bind (spec_l05Inverse.ev hp e2.1 e2.2) ?_
      have m1 := mul_bd h0 (show w ≤ 31 by omega) e1.1 (show _ ≤ 31 by omega)
      have e4 := emod_bd (p := p) (by omega) (w * ((x - l[j]) % p))
      have m2 := mul_bd e4.1 (show _ ≤ 31 by omega) e3.1 (show _ ≤ 31 by omega)
      rw [w64 (n := w * ((x - l[j]) % p)) (by omega) (by omega), tmod_of m1.1, w64 (by omega) (by omega), tmod_of m2.1]
      have hs := wS_bd (p := p) (by omega) x l[i] w l[j]
      rw [hgi]
      rw [hgi] at ih
      exact ih (j + 1) _ (by omega) hs.1 hs.2
theorem spec_l05Weights.ev_l (p x : Int) (hp : isPr p = true) (hx : 0 ≤ x ∧ x ≤ p - 1) (l : List Int) (hl : isPts p l = true) : ∀ (d i : Nat) (acc : List Int), i + d = l.length → acc.length = i → Ev (fun k => spec_l05Weights.l0 k p l x acc (i : Int)) (acc ++ (wM p l x).drop i) := by
  obtain ⟨hl10, _, hmem⟩ := isPts_of hl
  have hb := isPr_bd hp
  intro d
  induction d with
  | zero =>
    intro i acc hi ha
    refine Ev.succ ?_
    simp only [spec_l05Weights.l0]
    rw [drop_end (by rw [wM_length]; omega), List.append_nil]
    exact Ev.neg (by omega) (Ev.now _)
  | succ d ih =>
    intro i acc hi ha
    refine Ev.succ ?_
    simp only [spec_l05Weights.l0]
    refine Ev.pos (by omega) ?_
    have := spec_l05Weights.in_l p x hp hx l hl i (by omega) acc ha (fun w => (acc ++ [w]) ++ (wM p l x).drop (i + 1)) (fun w => ih (i + 1) _ (by omega) (by simp [ha])) l.length 0 1 (by omega) (by omega) (by omega)
    refine Ev.eq this ?_
    unfold wM
    rw [range_map_drop (wAt p l x) l.length i (by omega), List.append_assoc]
    rfl
theorem spec_l05Weights.ev (p x : Int) (hp : isPr p = true) (hx : 0 ≤ x ∧ x ≤ p - 1) (l : List Int) (hl : isPts p l = true) : Ev (fun k => spec_l05Weights.f k p l x) (wM p l x) := by
  unfold spec_l05Weights.f
  exact Ev.eq (spec_l05Weights.ev_l p x hp hx l hl l.length 0 [] (by omega) rfl) (by simp)

-- spec_l00Rises
theorem spec_l00Rises.ev_l (lo hi : Int) (l : List Int) (hl : l.length ≤ 35184372088832) : ∀ (d i : Nat), i + d = l.length → Ev (fun k => spec_l00Rises.l0 k l lo hi (i : Int)) (risesAt lo hi l i) := by
  intro d
  induction d with
  | zero =>
    intro i hi
    refine Ev.succ ?_
    simp only [spec_l00Rises.l0]
    rw [risesAt_end _ _ _ _ (by omega)]
    exact Ev.neg (by omega) (Ev.now _)
  | succ d ih =>
    intro i hd
    have hlt : i < l.length := by omega
    refine Ev.succ ?_
    simp only [spec_l00Rises.l0]
    have hn := ih (i + 1) (by omega)
    rw [rd_get l i hlt, spec_l00In.eq, w64 (n := (i : Int) + 1) (by omega) (by omega)]
    refine Ev.pos (by omega) (Ev.pos (by omega) (Ev.bindc rfl ?_))
    cases i with
    | zero =>
      rw [risesAt_zero _ _ _ hlt]
      cases hc : decide (lo ≤ l[0] ∧ l[0] ≤ hi) with
      | false => exact Ev.neg Bool.false_ne_true (Ev.now _)
      | true => exact Ev.pos rfl (Ev.neg (by omega) (by rw [Bool.true_and]; exact hn))
    | succ j =>
      rw [risesAt_succ _ _ _ _ hlt]
      cases hc : decide (lo ≤ l[j + 1] ∧ l[j + 1] ≤ hi) with
      | false => exact Ev.neg Bool.false_ne_true (Ev.now _)
      | true =>
        have e : ((j + 1 : Nat) : Int) - 1 = (j : Int) := by omega
        rw [w64 (n := ((j + 1 : Nat) : Int) - 1) (by omega) (by omega), e, rd_get l j (by omega), Bool.true_and]
        refine Ev.pos rfl (Ev.pos (by omega) (Ev.pos (by omega) (Ev.pos (by omega) ?_)))
        by_cases hx : l[j] < l[j + 1]
        · rw [decide_eq_true hx, Bool.true_and]
          exact Ev.neg (by omega) hn
        · rw [decide_eq_false hx, Bool.false_and]
          exact Ev.pos (by omega) (Ev.now _)

-- spec_l05Points
theorem spec_l05Points.ev (p : Int) (hp : -9223372036854775807 ≤ p) (hp' : p ≤ 9223372036854775807) (l : List Int) (hl : l.length ≤ 35184372088832) : Ev (fun k => spec_l05Points.f k p l) (isPts p l) := by
  unfold spec_l05Points.f spec_l00Rises.f
  rw [w64 (n := p - 1) (by omega) (by omega), ← isPts_at]
  by_cases h : l.length ≤ 10
  · rw [decide_eq_true h, Bool.true_and]
    exact Ev.pos (by omega) (Ev.bind (spec_l00Rises.ev_l 1 (p - 1) l hl l.length 0 (by omega)) (Ev.now _))
  · rw [decide_eq_false h, Bool.false_and]
    exact Ev.neg (by omega) (Ev.now _)

-- spec_l05Prime
theorem spec_l05Prime.small : ∀ n : Fin 32, 2 ≤ n.val → spec_l05Prime.f 40 (n.val : Int) = some (isPr (n.val : Int)) := by decide +kernel
theorem spec_l05Prime.ev (p : Int) : Ev (fun k => spec_l05Prime.f k p) (isPr p) := by
  by_cases h : 2 ≤ p ∧ p ≤ 31
  · obtain ⟨n, rfl⟩ : ∃ n : Nat, p = n := ⟨p.toNat, by omega⟩
    exact Ev.of (fun k => spec_l05Prime.mono _ k) (spec_l05Prime.small ⟨n, by omega⟩ (by simp only; omega))
  · have e : isPr p = false := by
      rcases (show p < 2 ∨ 2 ≤ p by omega) with h1 | h1
      · exact isPr_small h1
      · exact isPr_big (by omega)
    rw [e]
    refine Ev.congr (f := fun _ => some false) (fun k => ?_) (Ev.now _)
    unfold spec_l05Prime.f
    rw [spec_l00In.eq, decide_eq_false h]
    rfl

-- spec_WeightsFor
theorem spec_WeightsFor.ev (p : Int) (l : List Int) (x : Int) (hl : l.length ≤ 35184372088832) : Ev (fun k => spec_WeightsFor.f k p l x) (weightsForM p l x) := by
  unfold spec_WeightsFor.f weightsForM
  refine Ev.bind (spec_l05Prime.ev p) ?_
  cases h : isPr p with
  | false => exact Ev.neg Bool.false_ne_true (Ev.now _)
  | true =>
    have hb := isPr_bd h
    refine Ev.pos rfl (Ev.bind (spec_l05Points.ev p (by omega) (by omega) l hl) ?_)
    rw [if_pos rfl]
    cases h2 : isPts p l with
    | false =>
      rw [if_neg (by simp)]
      refine Ev.neg Bool.false_ne_true (Ev.succ ?_)
      simp only [spec_WeightsFor.j0]
      exact Ev.pos (by simp) (Ev.now _)
    | true =>
      refine Ev.pos rfl (Ev.bindc (spec_l00In.eq _ _ _) (Ev.succ ?_))
      simp only [spec_WeightsFor.j0]
      rw [w64 (n := p - 1) (by omega) (by omega)]
      by_cases hx : 0 ≤ x ∧ x ≤ p - 1
      · rw [if_pos ⟨by simp, hx⟩]
        refine Ev.neg (by simpa using hx) ?_
        by_cases h0 : l.length = 0
        · rw [if_pos h0]
          exact Ev.pos (by omega) (Ev.now _)
        · rw [if_neg h0]
          exact Ev.neg (by omega) (Ev.bind (spec_l05Weights.ev p x h hx l h2) (Ev.now _))
      · rw [if_neg (fun e => hx e.2)]
        exact Ev.pos (by rw [decide_eq_false hx]; rfl) (Ev.now _)

-- impl_ValidCurve
theorem impl_ValidCurve.ev (p : Int) (l : List Int) (hl : l.length ≤ 35184372088832) : Ev (fun k => impl_ValidCurve.f k p l) (isCurve p l) := by
  unfold impl_ValidCurve.f isCurve
  refine Ev.bind (impl_areElements.ev p l (by omega)) ?_
  cases h : isPr p with
  | false => exact Ev.neg Bool.false_ne_true (Ev.now _)
  | true =>
    rw [Bool.true_and, Bool.true_and]
    cases hr : allR p l with
    | false =>
      refine Ev.neg Bool.false_ne_true ?_
      rw [Bool.false_and, Bool.and_false]
      exact Ev.now _
    | true =>
      refine Ev.pos rfl ?_
      rw [Bool.true_and]
      by_cases h7 : l.length ≤ 7
      · rw [decide_eq_true h7, Bool.true_and]
        refine Ev.pos (by omega) ?_
        by_cases h0 : l.length = 0
        · refine Ev.pos (by omega) ?_
          have : l = [] := List.length_eq_zero_iff.1 h0
          subst this
          exact Ev.now _
        · refine Ev.neg (by omega) ?_
          rw [w64 (by omega) (by omega)]
          refine Ev.pos (by omega) (Ev.pos (by omega) ?_)
          rw [lastNZ_rd h0]
          exact Ev.now _
      · refine Ev.neg (by omega) ?_
        rw [decide_eq_false h7]
        exact Ev.now _

-- impl_curveAt
theorem impl_curveAt.ev_l (p x : Int) (hp : 0 < p) (hp' : p ≤ 31) (hx : 0 ≤ x ∧ x < p) (l : List Int) (hr : allR p l = true) (hl : l.length ≤ 35184372088832) : ∀ (n : Nat) (acc : Int), n ≤ l.length → 0 ≤ acc → acc < p → Ev (fun k => impl_curveAt.l0 k p l x acc ((n : Int) - 1)) (horner p x (l.take n) acc) := by
  intro n
  induction n with
  | zero =>
    intro acc hn h0 h1
    refine Ev.succ ?_
    simp only [impl_curveAt.l0]
    exact Ev.neg (by omega) (Ev.now _)
  | succ n ih =>
    intro acc hn h0 h1
    refine Ev.succ ?_
    simp only [impl_curveAt.l0]
    have hlt : n < l.length := by omega
    have e : ((n + 1 : Nat) : Int) - 1 = (n : Int) := by omega
    have hg := allR_get hr n hlt
    have hm := mul_bd h0 (show acc ≤ 31 by omega) hx.1 (show x ≤ 31 by omega)
    rw [e, rd_get l n hlt]
    refine Ev.pos (by omega) (Ev.pos (by omega) (Ev.pos (by omega) (Ev.neg (by omega) ?_)))
    rw [w64 (n := acc * x) (by omega) (by omega), w64 (n := acc * x + l[n]) (by omega) (by omega), w64 (n := (n : Int) - 1) (by omega) (by omega), tmod_of (by omega), horner_take p x l n hlt]
    exact ih _ (by omega) (emod_bd hp _).1 (emod_bd hp _).2
theorem impl_curveAt.ev (p x : Int) (hp : 0 < p) (hp' : p ≤ 31) (hx : 0 ≤ x ∧ x < p) (l : List Int) (hr : allR p l = true) (hl : l.length ≤ 35184372088832) : Ev (fun k => impl_curveAt.f k p l x) (cval p l x) := by
  unfold impl_curveAt.f
  rw [w64 (by omega) (by omega)]
  refine Ev.eq (impl_curveAt.ev_l p x hp hp' hx l hr hl l.length 0 (Nat.le_refl _) (by omega) (by omega)) ?_
  rw [List.take_length]; rfl

-- impl_CurveAt
theorem impl_CurveAt.ev (p : Int) (l : List Int) (x : Int) (hl : l.length ≤ 35184372088832) : Ev (fun k => impl_CurveAt.f k p l x) (if isCurve p l = true then (if 0 ≤ x ∧ x ≤ p - 1 then (cval p l x, 0) else (0, 2)) else (0, 1)) := by
  unfold impl_CurveAt.f
  refine Ev.bind (impl_ValidCurve.ev p l hl) ?_
  by_cases hc : isCurve p l = true
  · obtain ⟨h1, h2, h3, h4⟩ := isCurve_of hc
    have hb := isPr_bd h1
    rw [if_pos hc]
    refine Ev.pos hc (Ev.bind (impl_areElements.ev p [x] (by simp)) ?_)
    rw [impl_areElements.one p x h1]
    by_cases hx : 0 ≤ x ∧ x ≤ p - 1
    · rw [if_pos hx]
      exact Ev.pos (decide_eq_true hx) (Ev.bind (impl_curveAt.ev p x (by omega) (by omega) (by omega) l h3 hl) (Ev.now _))
    · rw [if_neg hx]
      exact Ev.neg (by simpa using hx) (Ev.now _)
  · rw [if_neg hc]
    exact Ev.neg hc (Ev.now _)

-- laws_f6ints
theorem laws_f6ints.ev_l (a : List Int) (hl : a.length ≤ 1000000) : ∀ (d i : Nat), i + d = a.length → Ev (fun k => laws_f6ints.l0 k a a (i : Int)) true := by
  intro d
  induction d with
  | zero =>
    intro i hi
    refine Ev.succ ?_
    simp only [laws_f6ints.l0]
    exact Ev.neg (by omega) (Ev.now _)
  | succ d ih =>
    intro i hi
    refine Ev.succ ?_
    simp only [laws_f6ints.l0]
    rw [w64 (n := (i : Int) + 1) (by omega) (by omega)]
    exact Ev.pos (by omega) (Ev.pos (by omega) (Ev.pos (by omega) (Ev.pos (by simp) (ih (i + 1) (by omega)))))
theorem laws_f6ints.ev (a : List Int) (hl : a.length ≤ 1000000) : Ev (fun k => laws_f6ints.f k a a) true := by
  unfold laws_f6ints.f
  exact Ev.pos rfl (laws_f6ints.ev_l a hl a.length 0 (by omega))

end Go.Proofs.Ytonpikcbmgmchaa.PFnWeightsFor
