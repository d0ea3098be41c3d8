/- Regions whose operations go in an order that is left open: reads that stand in any order, and effects that stand in one. -/
import Derived.Test.YteajnanbfkcdcaaDoorVD
set_option linter.unusedVariables false
set_option linter.unusedSimpArgs false
namespace Go.Proofs.YteajnanbfkcdcaaDoor.VC
open Go Go.RowKit
variable {P : Program} {W : World} {N : Nat} {Q : Exit → List (Nat × Value) → Hp → Prop} {E : List (Nat × Value)} {H : Hp} {l : List Oper} {M : List Nat}
/-! ### 1. What must stand ahead of what -/
def aft (l : List Oper) (i : Nat) : List Nat := match l[i]? with
  | some o => (o.after.toList.filter (Region.binds .any)).map (·.on)
  | none => []
/-- What stands behind what, all in all: one number for each operation (laid by program, checked by 'okM'). -/
def reach (M : List Nat) (i e : Nat) : Bool := (M.getD i 0).testBit e
def okM (l : List Oper) (M : List Nat) : Bool := (List.range l.length).all fun i =>
  let U := (aft l i).foldl (fun s j => s ||| (2 ^ j ||| M.getD j 0)) 0
  (M.getD i 0 ||| U) == U && (aft l i).all fun j => decide (j < i)
def looks (l : List Oper) (j d : Nat) : Bool := match l[j]? with
  | some o => (o.looksAt l.toArray).contains d
  | none => false
def dstIs (l : List Oper) (j d : Nat) : Bool := match l[j]? with
  | some o => o.dst == some d
  | none => false
/-- Who looks at what i writes stands behind i; i itself doesn't; none of R writes it. -/
def cleanR (l : List Oper) (M R : List Nat) (i d : Nat) : Bool := !looks l i d && (List.range l.length).all (fun j => j == i || !looks l j d || reach M j i) && R.all fun j => !looks l j d && !dstIs l j d
def cleanE (l : List Oper) (M R : List Nat) (i d : Nat) : Bool := (List.range l.length).all (fun j => j == i || !looks l j d || reach M j i || reach M i j) && R.all fun j => !dstIs l j d
/-! ### 2. Acts that hold what is known -/
def upd : List (Nat × Value) → Act → Act
  | [], a => a
  | (k, v) :: E, a => (upd E a).put (some k) v
theorem upd_size (E : List (Nat × Value)) (a : Act) : (upd E a).tmps.size = a.tmps.size := by
  induction E with
  | nil => rfl
  | cons x E ih => simp only [upd, Act.put, Array.size_setIfInBounds]; exact ih
theorem upd_defers (E : List (Nat × Value)) (a : Act) : (upd E a).defers = a.defers := by
  induction E with
  | nil => rfl
  | cons x E ih => exact ih
theorem upd_none {E : List (Nat × Value)} {t : Nat} (h : geti E t = none) (a : Act) : (upd E a).tmps[t]? = a.tmps[t]? := by
  induction E with
  | nil => rfl
  | cons x E ih =>
    obtain ⟨k, v⟩ := x
    simp only [geti] at h
    cases hk : Nat.beq k t with
    | true => rw [hk] at h; cases h
    | false =>
      rw [hk] at h
      have hne : k ≠ t := fun e => by subst e; simp at hk
      simp only [upd, Act.put]
      rw [Array.getElem?_setIfInBounds_ne hne]
      exact ih h
theorem upd_some {E : List (Nat × Value)} {t : Nat} {v : Value} (h : geti E t = some v) {a : Act} (ht : t < a.tmps.size) : (upd E a).tmps[t]? = some v := by
  induction E with
  | nil => cases h
  | cons x E ih =>
    obtain ⟨k, u⟩ := x
    simp only [geti] at h
    simp only [upd, Act.put]
    cases hk : Nat.beq k t with
    | true =>
      have := Nat.eq_of_beq_eq_true hk
      subst this
      rw [hk] at h
      simp only [cond_true, Option.some.injEq] at h
      subst h
      have : k < (upd E a).tmps.size := by rw [upd_size]; exact ht
      simp [this]
    | false =>
      rw [hk] at h
      have hne : k ≠ t := fun e => by subst e; simp at hk
      rw [Array.getElem?_setIfInBounds_ne hne]
      exact ih h
theorem upd_sat {E : List (Nat × Value)} {a : Act} (hs : a.tmps.size = N) (hd : a.defers = []) (hk : ∀ t v, geti E t = some v → t < N) : SatE N E (upd E a) :=
  ⟨by rw [upd_size, hs], by rw [upd_defers, hd], fun t v h => upd_some h (by rw [hs]; exact hk t v h)⟩
/-- Two acts that agree where an operation looks. -/
def Agree (l : List Oper) (o : Oper) (a b : Act) : Prop := ∀ t, t ∈ o.looksAt l.toArray → a.tmps[t]? = b.tmps[t]?
theorem Agree.eval {o : Oper} {a b : Act} (h : Agree l o a b) : ∀ x ∈ o.op.operands, a.eval x = b.eval x := fun x hx => by
  cases x with
  | tmp t =>
    have ht : t ∈ o.looksAt l.toArray := List.mem_append_left _ (List.mem_filterMap.2 ⟨.tmp t, by simpa using hx, rfl⟩)
    show a.tmps.getD t undef = b.tmps.getD t undef
    simp only [Array.getD_eq_getD_getElem?, h t ht]
  | _ => rfl
theorem Agree.wanted {o : Oper} {a b : Act} (h : Agree l o a b) : Region.wanted o (yielded l.toArray a.tmps) = Region.wanted o (yielded l.toArray b.tmps) := by
  unfold Region.wanted
  cases hg : o.guard with
  | none => rfl
  | some gw =>
    obtain ⟨g, want⟩ := gw
    have hy : yielded l.toArray a.tmps g = yielded l.toArray b.tmps g := by
      unfold yielded
      cases ht : (l.toArray[g]?).bind (·.dst) with
      | none => rfl
      | some t =>
        have hm : t ∈ o.looksAt l.toArray := List.mem_append_right _ (by simpa [hg] using ht)
        simp only [Option.bind_some, h t hm]
    simp only [hy]
def plainOp (o : Oper) : Prop := ∀ cs b, o.op ≠ .select cs b
theorem Agree.exec {o : Oper} {a b : Act} (h : Agree l o a b) (hp : plainOp o) : execOp a.eval o = execOp b.eval o := execOp_congr o hp h.eval
/-! ### 3. Reads and effects -/
/-- It yields v, now and behind whatever is made. -/
def RV (P : Program) (W : World) (N : Nat) (l : List Oper) (E : List (Nat × Value)) (H : Hp) (o : Oper) (v : Value) : Prop :=
  plainOp o ∧ ∀ H2, Ext H H2 → ∀ a w, SatE N E a → SatH W H2 w →
    (Region.wanted o (yielded l.toArray a.tmps) = true ∧ (execOp a.eval o).run P w = .ok (.value v) w) ∨ (Region.wanted o (yielded l.toArray a.tmps) = false ∧ v = undef)
def EC (P : Program) (W : World) (N : Nat) (l : List Oper) (E : List (Nat × Value)) (H : Hp) (o : Oper) (Po : Value → Hp → Prop) : Prop :=
  plainOp o ∧ ∀ a w, SatE N E a → SatH W H w → Region.wanted o (yielded l.toArray a.tmps) = true ∧ (match (execOp a.eval o).run P w with
    | .ok (.value v) w' => ∃ H', SatH W H' w' ∧ Po v H'
    | .ok .skip w' => ∃ H', SatH W H' w' ∧ Po undef H'
    | .ok (.enter f args) w' => Calls P f args w' (fun e w'' => ∃ v H', e = .returned v ∧ SatH W H' w'' ∧ Po v H')
    | _ => False)
def putE (dst : Option Nat) (v : Value) (E : List (Nat × Value)) : List (Nat × Value) := match dst with | some d => (d, v) :: E | none => E
/-- What is read and not yet listed is read as before, behind an effect, too. -/
def Kept (P : Program) (W : World) (N : Nat) (l : List Oper) (M : List Nat) (E : List (Nat × Value)) (H' : Hp) (i : Nat) (R : List Nat) : Prop :=
  ∀ j ∈ R, reach M i j = false → ∃ o d v, l[j]? = some o ∧ o.dst = some d ∧ geti E d = some v ∧ RV P W N l E H' o v
theorem kept_nil {P : Program} {H' : Hp} {i : Nat} : Kept P W N l M E H' i [] := fun _ h => by cases h
theorem kept_cons {P : Program} {H' : Hp} {i j : Nat} {R : List Nat} (h : reach M i j = true ∨ ∃ o d v, l[j]? = some o ∧ o.dst = some d ∧ geti E d = some v ∧ RV P W N l E H' o v) (k : Kept P W N l M E H' i R) : Kept P W N l M E H' i (j :: R) := fun q hq hr => by
  rcases List.mem_cons.1 hq with rfl | hq
  · rcases h with h | h
    · rw [h] at hr; cases hr
    · exact h
  · exact k q hq hr
inductive Dr (P : Program) (W : World) (N : Nat) (l : List Oper) (M : List Nat) (Q : Exit → List (Nat × Value) → Hp → Prop) : List Nat → List Nat → List (Nat × Value) → Hp → Prop
  | fin {done R E H} (hc : ((List.range l.length).all fun i => done.contains i || R.contains i) = true) (hq : Q .normal E H) : Dr P W N l M Q done R E H
  | read {done R E H} (i : Nat) (o : Oper) (d : Nat) (v : Value) (ho : l[i]? = some o) (hd : o.dst = some d) (hN : Nat.ble (d + 1) N = true) (hi : (done.contains i || R.contains i) = false) (hc : cleanR l M R i d = true)
      (hv : RV P W N l E H o v) (h : Dr P W N l M Q done (i :: R) ((d, v) :: E) H) : Dr P W N l M Q done R E H
  | eff {done R E H} (i : Nat) (o : Oper) (Po : Value → Hp → Prop) (ho : l[i]? = some o) (hN : ∀ d, o.dst = some d → Nat.ble (d + 1) N = true ∧ cleanE l M R i d = true) (hi : (done.contains i || R.contains i) = false)
      (hc : ((List.range l.length).all fun j => done.contains j || R.contains j || j == i || reach M j i) = true) (hr : (R.all fun j => !reach M j i) = true) (he : EC P W N l E H o Po)
      (hx : ∀ v H', Po v H' → Ext H H' ∨ (R.all fun j => reach M i j) = true ∨ Kept P W N l M E H' i R)
      (h : ∀ v H', Po v H' → Dr P W N l M Q (i :: ((List.range l.length).filter fun j => reach M i j) ++ done) R (putE o.dst v E) H') : Dr P W N l M Q done R E H
  | eff2 {done R E H} (i k : Nat) (o o2 : Oper) (Po Po2 : Value → Hp → Prop) (ho : l[i]? = some o) (ho2 : l[k]? = some o2) (hN : ∀ d, o.dst = some d → Nat.ble (d + 1) N = true ∧ cleanE l M R i d = true) (hN2 : ∀ d, o2.dst = some d → Nat.ble (d + 1) N = true ∧ cleanE l M R k d = true)
      (hi : (done.contains i || R.contains i) = false) (hk : (done.contains k || R.contains k) = false)
      (hc : ((List.range l.length).all fun j => done.contains j || R.contains j || j == i || j == k || reach M j i || reach M j k) = true) (hr : (R.all fun j => !reach M j i) = true) (hr2 : (R.all fun j => !reach M j k) = true) (he : EC P W N l E H o Po) (he2 : EC P W N l E H o2 Po2)
      (hx : ∀ v H', Po v H' → Ext H H' ∨ (R.all fun j => reach M i j) = true ∨ Kept P W N l M E H' i R) (hx2 : ∀ v H', Po2 v H' → Ext H H' ∨ (R.all fun j => reach M k j) = true ∨ Kept P W N l M E H' k R)
      (h : ∀ v H', Po v H' → Dr P W N l M Q (i :: ((List.range l.length).filter fun j => reach M i j) ++ done) R (putE o.dst v E) H')
      (h2 : ∀ v H', Po2 v H' → Dr P W N l M Q (k :: ((List.range l.length).filter fun j => reach M k j) ++ done) R (putE o2.dst v E) H') : Dr P W N l M Q done R E H
  | eff3 {done R E H} (i k m : Nat) (o o2 o3 : Oper) (Po Po2 Po3 : Value → Hp → Prop) (ho : l[i]? = some o) (ho2 : l[k]? = some o2) (ho3 : l[m]? = some o3) (hN : ∀ d, o.dst = some d → Nat.ble (d + 1) N = true ∧ cleanE l M R i d = true) (hN2 : ∀ d, o2.dst = some d → Nat.ble (d + 1) N = true ∧ cleanE l M R k d = true) (hN3 : ∀ d, o3.dst = some d → Nat.ble (d + 1) N = true ∧ cleanE l M R m d = true)
      (hi : (done.contains i || R.contains i) = false) (hk : (done.contains k || R.contains k) = false) (hm : (done.contains m || R.contains m) = false)
      (hc : ((List.range l.length).all fun j => done.contains j || R.contains j || j == i || j == k || j == m || reach M j i || reach M j k || reach M j m) = true) (hr : (R.all fun j => !reach M j i) = true) (hr2 : (R.all fun j => !reach M j k) = true) (hr3 : (R.all fun j => !reach M j m) = true) (he : EC P W N l E H o Po) (he2 : EC P W N l E H o2 Po2) (he3 : EC P W N l E H o3 Po3)
      (hx : ∀ v H', Po v H' → Ext H H' ∨ (R.all fun j => reach M i j) = true ∨ Kept P W N l M E H' i R) (hx2 : ∀ v H', Po2 v H' → Ext H H' ∨ (R.all fun j => reach M k j) = true ∨ Kept P W N l M E H' k R) (hx3 : ∀ v H', Po3 v H' → Ext H H' ∨ (R.all fun j => reach M m j) = true ∨ Kept P W N l M E H' m R)
      (h : ∀ v H', Po v H' → Dr P W N l M Q (i :: ((List.range l.length).filter fun j => reach M i j) ++ done) R (putE o.dst v E) H')
      (h2 : ∀ v H', Po2 v H' → Dr P W N l M Q (k :: ((List.range l.length).filter fun j => reach M k j) ++ done) R (putE o2.dst v E) H')
      (h3 : ∀ v H', Po3 v H' → Dr P W N l M Q (m :: ((List.range l.length).filter fun j => reach M m j) ++ done) R (putE o3.dst v E) H') : Dr P W N l M Q done R E H
theorem RV.cons {o : Oper} {v u : Value} {d : Nat} (h : RV P W N l E H o v) (hk : ∀ t v, geti E t = some v → t < N) (hd : d ∉ o.looksAt l.toArray) : RV P W N l ((d, u) :: E) H o v := by
  refine ⟨h.1, fun H2 hx a w ha hw => ?_⟩
  have hs : SatE N E (upd E a) := upd_sat ha.size ha.defers hk
  have hag : Agree l o (upd E a) a := fun t ht => by
    cases hg : geti E t with
    | none => exact upd_none hg a
    | some z =>
      have hne : d ≠ t := fun e => hd (e ▸ ht)
      have h2 : geti ((d, u) :: E) t = some z := by
        simp only [geti]
        cases hb : Nat.beq d t with
        | true => exact absurd (Nat.eq_of_beq_eq_true hb) hne
        | false => exact hg
      rw [upd_some hg (by rw [ha.size]; exact hk t z hg), ha.get t z h2]
  have := h.2 H2 hx _ w hs hw
  rw [hag.wanted, hag.exec h.1] at this
  exact this
theorem RV.ext {H' : Hp} {o : Oper} {v : Value} (h : RV P W N l E H o v) (k : Ext H H') : RV P W N l E H' o v := ⟨h.1, fun H2 hx => h.2 H2 (k.trans hx)⟩
/-! ### 4. Any order -/
structure Inv (W : World) (N : Nat) (l : List Oper) (M : List Nat) (done R : List Nat) (P : Program) (E : List (Nat × Value)) (H : Hp) (fuel : Nat) (listed : Array Bool) (a : Act) (w : World) : Prop where
  size : a.tmps.size = N
  defers : a.defers = []
  lsz : listed.size = l.length
  cnt : listed.toList.count false ≤ fuel
  sat : SatH W H w
  keys : ∀ t v, geti E t = some v → t < N
  i3 : ∀ t v, geti E t = some v → (∀ i ∈ R, listed[i]? = some false → dstIs l i t = false) → a.tmps[t]? = some v
  i4 : ∀ i ∈ done, i < l.length → listed[i]? = some true
  i8 : ∀ i, listed[i]? = some true → i ∈ done ∨ i ∈ R
  dc : ∀ i, listed[i]? = some true → ∀ j ∈ aft l i, listed[j]? = some true
  rv : ∀ i ∈ R, listed[i]? = some false → ∃ o d v, l[i]? = some o ∧ o.dst = some d ∧ geti E d = some v ∧ RV P W N l E H o v ∧ (∀ j, j ≠ i → looks l j d = true → reach M j i = true) ∧ looks l i d = false ∧ Nat.ble (d + 1) N = true
theorem fold_bit (f : Nat → Nat) : ∀ (L : List Nat) (s e : Nat), (L.foldl (fun s j => s ||| (2 ^ j ||| f j)) s).testBit e = true → s.testBit e = true ∨ ∃ j ∈ L, j = e ∨ (f j).testBit e = true
  | [], s, e, h => .inl h
  | j :: L, s, e, h => by
    rcases fold_bit f L _ e h with h | ⟨k, hk, h⟩
    · rw [Nat.testBit_or, Nat.testBit_or, Bool.or_eq_true, Bool.or_eq_true] at h
      rcases h with h | h | h
      · exact .inl h
      · rw [Nat.testBit_two_pow] at h
        exact .inr ⟨j, List.mem_cons_self, .inl (of_decide_eq_true h)⟩
      · exact .inr ⟨j, List.mem_cons_self, .inr h⟩
    · exact .inr ⟨k, List.mem_cons_of_mem _ hk, h⟩
theorem okM_at (hM : okM l M = true) {i : Nat} (hi : i < l.length) : (∀ e, reach M i e = true → ∃ j ∈ aft l i, j = e ∨ reach M j e = true) ∧ ∀ j ∈ aft l i, j < i := by
  have := List.all_eq_true.1 hM i (List.mem_range.2 hi)
  simp only [Bool.and_eq_true, beq_iff_eq, List.all_eq_true, decide_eq_true_eq] at this
  refine ⟨fun e he => ?_, this.2⟩
  have h2 : ((aft l i).foldl (fun s j => s ||| (2 ^ j ||| M.getD j 0)) 0).testBit e = true := by
    rw [← this.1, Nat.testBit_or, Bool.or_eq_true]
    exact .inl he
  rcases fold_bit _ _ _ _ h2 with h | h
  · simp at h
  · exact h
theorem reach_listed (hM : okM l M = true) {listed : Array Bool} (dc : ∀ i, listed[i]? = some true → ∀ j ∈ aft l i, listed[j]? = some true) : ∀ i e, i < l.length → (∀ j ∈ aft l i, listed[j]? = some true) → reach M i e = true → listed[e]? = some true := by
  intro i
  induction i using Nat.strongRecOn with
  | _ i ih =>
    intro e hi hd h
    obtain ⟨h1, h2⟩ := okM_at hM hi
    obtain ⟨j, hj, h⟩ := h1 e h
    rcases h with rfl | h
    · exact hd j hj
    · exact ih j (h2 j hj) e (by have := h2 j hj; omega) (dc j (hd j hj)) h
theorem ready_mem {listed : Array Bool} {i : Nat} (h : i ∈ Region.ready .any l.toArray listed) (hl : listed.size = l.length) : i < l.length ∧ listed[i]? = some false ∧ ∀ j ∈ aft l i, listed[j]? = some true := by
  simp only [Region.ready, List.mem_filter, List.mem_range, List.size_toArray, Bool.and_eq_true, Bool.not_eq_eq_eq_not, Bool.not_true] at h
  obtain ⟨h1, h2, h3⟩ := h
  have hlt : i < listed.size := by omega
  refine ⟨h1, ?_, fun j hj => ?_⟩
  · rw [Array.getElem?_eq_getElem hlt]
    rw [Array.getD_eq_getD_getElem?, Array.getElem?_eq_getElem hlt] at h2
    simpa using h2
  · have ho : l[i]? = some l[i] := List.getElem?_eq_getElem h1
    simp only [List.getElem?_toArray, ho, Option.map_some, Option.getD_some] at h3
    simp only [aft, ho, List.mem_map, List.mem_filter] at hj
    obtain ⟨e, ⟨he1, he2⟩, rfl⟩ := hj
    rw [Array.all_eq_true'] at h3
    have := h3 e (Array.mem_toList_iff.1 he1)
    simp only [he2, Bool.not_true, Bool.false_or] at this
    rcases Nat.lt_or_ge e.on listed.size with hlt' | hge
    · rw [Array.getElem?_eq_getElem hlt']
      rw [Array.getD_eq_getD_getElem?, Array.getElem?_eq_getElem hlt'] at this
      simpa using this
    · rw [Array.getD_eq_getD_getElem?, Array.getElem?_eq_none hge] at this
      simp at this
theorem all_listed {listed : Array Bool} (hM : okM l M = true) (hl : listed.size = l.length) (hr : Region.ready .any l.toArray listed = []) : ∀ i, i < l.length → listed[i]? = some true := by
  intro i
  induction i using Nat.strongRecOn with
  | _ i ih =>
    intro hi
    have hlt : i < listed.size := by omega
    cases hv : listed[i] with
    | true => rw [Array.getElem?_eq_getElem hlt, hv]
    | false =>
      exfalso
      have : i ∈ Region.ready .any l.toArray listed := by
        simp only [Region.ready, List.mem_filter, List.mem_range, List.size_toArray, Bool.and_eq_true]
        refine ⟨hi, by simp [Array.getD_eq_getD_getElem?, hlt, hv], ?_⟩
        have ho : l[i]? = some l[i] := List.getElem?_eq_getElem hi
        simp only [List.getElem?_toArray, ho, Option.map_some, Option.getD_some]
        rw [Array.all_eq_true']
        intro e he
        cases hbd : Region.binds .any e with
        | false => rfl
        | true =>
          have hm : e.on ∈ aft l i := by
            simp only [aft, ho, List.mem_map, List.mem_filter]
            exact ⟨e, ⟨Array.mem_toList_iff.2 he, hbd⟩, rfl⟩
          have hlt' := (okM_at hM hi).2 _ hm
          have := ih e.on hlt' (by omega)
          simp only [Bool.not_true, Bool.false_or]
          have hlt2 : e.on < listed.size := by omega
          rw [Array.getElem?_eq_getElem hlt2] at this
          rw [Array.getD_eq_getD_getElem?, Array.getElem?_eq_getElem hlt2]
          simpa using this
      rw [hr] at this
      cases this
theorem count_set {x : Array Bool} {i : Nat} (h : x[i]? = some false) : (x.setIfInBounds i true).toList.count false + 1 = x.toList.count false := by
  obtain ⟨hlt, hv⟩ := Array.getElem?_eq_some_iff.1 h
  rw [Array.toList_setIfInBounds]
  have hl : i < x.toList.length := by simpa using hlt
  have hv' : x.toList[i] = false := by simpa using hv
  generalize x.toList = L at *
  clear h hv hlt
  induction L generalizing i with
  | nil => cases hl
  | cons b L ih =>
    cases i with
    | zero => simp at hv'; subst hv'; simp
    | succ i =>
      have := ih (i := i) (by simpa using hl) (by simpa using hv')
      simp only [List.set_cons_succ, List.count_cons]
      omega
theorem set_get {x : Array Bool} {i j : Nat} (h : x[j]? = some true) : (x.setIfInBounds i true)[j]? = some true := by
  rw [Array.getElem?_setIfInBounds]
  have := (Array.getElem?_eq_some_iff.1 h).1
  split
  · rename_i e; subst e; simp [this]
  · exact h
theorem set_self {x : Array Bool} {i : Nat} (h : i < x.size) : (x.setIfInBounds i true)[i]? = some true := by simp [h]
theorem set_false {x : Array Bool} {i j : Nat} (h : (x.setIfInBounds i true)[j]? = some false) : j ≠ i ∧ x[j]? = some false := by
  rw [Array.getElem?_setIfInBounds] at h
  split at h
  · split at h <;> cases h
  · rename_i hne; exact ⟨fun e => hne e.symm, h⟩
theorem set_true {x : Array Bool} {i j : Nat} (h : (x.setIfInBounds i true)[j]? = some true) : j = i ∨ x[j]? = some true := by
  rw [Array.getElem?_setIfInBounds] at h
  split at h
  · rename_i e; exact .inl e.symm
  · exact .inr h
theorem put_get {a : Act} {d t : Nat} {v : Value} (h : d ≠ t) : (a.put (some d) v).tmps[t]? = a.tmps[t]? := by
  simp only [Act.put]; rw [Array.getElem?_setIfInBounds_ne h]
theorem put_self {a : Act} {d : Nat} {v : Value} (h : d < a.tmps.size) : (a.put (some d) v).tmps[d]? = some v := by simp [Act.put, h]
theorem looks_of {o : Oper} {i t : Nat} (ho : l[i]? = some o) (h : t ∈ o.looksAt l.toArray) : looks l i t = true := by simp [looks, ho, h]
theorem looks_not {o : Oper} {i t : Nat} (ho : l[i]? = some o) (h : looks l i t = false) : t ∉ o.looksAt l.toArray := by simpa [looks, ho] using h
theorem dstIs_of {o : Oper} {i d t : Nat} (ho : l[i]? = some o) (hd : o.dst = some d) : dstIs l i t = decide (d = t) := by
  simp only [dstIs, ho, hd]
  by_cases h : d = t
  · subst h; simp
  · have : (some d == some t) = false := by simpa using h
    rw [this]; simp [h]
section
variable {done R : List Nat} {fuel : Nat} {listed : Array Bool} {a : Act} {w : World}
theorem Inv.agree (hM : okM l M = true) (h : Inv W N l M done R P E H (fuel + 1) listed a w) {i : Nat} {o : Oper} (ho : l[i]? = some o) (hdeps : ∀ j ∈ aft l i, listed[j]? = some true) (hs : i ∈ R → ∀ d, o.dst = some d → looks l i d = false) : Agree l o (upd E a) a := fun t ht => by
  cases hg : geti E t with
  | none => exact upd_none hg a
  | some z =>
    rw [upd_some hg (by rw [h.size]; exact h.keys t z hg)]
    refine (h.i3 t z hg fun j hj hjf => ?_).symm
    obtain ⟨oj, dj, vj, h1, h2, h3, h4, h5, h6, h7⟩ := h.rv j hj hjf
    rw [dstIs_of h1 h2]
    by_cases e : dj = t
    · exfalso
      subst e
      by_cases hij : i = j
      · subst hij
        rw [ho] at h1
        cases h1
        rw [looks_of ho ht] at h6
        cases h6
      · have := reach_listed hM h.dc i j (List.getElem?_eq_some_iff.1 ho).1 hdeps (h5 i hij (looks_of ho ht))
        rw [this] at hjf
        cases hjf
    · simp [e]
theorem Inv.read (hM : okM l M = true) (h : Inv W N l M done R P E H (fuel + 1) listed a w) {i : Nat} (hR : i ∈ R) (hi : i ∈ Region.ready .any l.toArray listed) :
    ∃ d v, (∀ K : Act → World → Prop, K (a.put (some d) v) w → wpOp P l.toArray (QQ W N Q) i K a w) ∧ Inv W N l M done R P E H fuel (listed.setIfInBounds i true) (a.put (some d) v) w := by
  obtain ⟨hlt, hf, hdeps⟩ := ready_mem hi h.lsz
  obtain ⟨o, d, v, ho, hod, hg, hRV, hcl, hself, hN⟩ := h.rv i hR hf
  have hag := h.agree hM ho hdeps (fun _ d' hd' => by rw [hod] at hd'; cases hd'; exact hself)
  have hN' := Nat.le_of_ble_eq_true hN
  have hs : SatE N E (upd E a) := upd_sat h.size h.defers h.keys
  have hlt' : i < listed.size := by rw [h.lsz]; exact hlt
  refine ⟨d, v, fun K hK => ?_, ?_⟩
  · unfold wpOp
    simp only [List.getElem?_toArray, ho]
    rcases hRV.2 H (Ext.refl H) _ w hs h.sat with ⟨h1, h2⟩ | ⟨h1, h2⟩
    · rw [hag.wanted] at h1
      rw [hag.exec hRV.1] at h2
      rw [if_pos h1]
      refine .inl ?_
      unfold Oper.wp
      rw [h2]
      show K (a.put o.dst v) w
      rw [hod]; exact hK
    · rw [hag.wanted] at h1
      rw [h1]
      simp only [Bool.false_eq_true, if_false]
      rw [hod, ← h2]; exact hK
  · refine ⟨by simp [Act.put, h.size], h.defers, by rw [Array.size_setIfInBounds]; exact h.lsz, by have := count_set hf; have := h.cnt; omega, h.sat, h.keys, fun t z hz hy => ?_, fun j hj hjl => set_get (h.i4 j hj hjl), fun j hj => ?_, fun j hj k hk => ?_, fun j hj hjf => ?_⟩
    · by_cases e : d = t
      · subst e
        rw [hg] at hz
        cases hz
        exact put_self (by rw [h.size]; omega)
      · rw [put_get e]
        refine h.i3 t z hz fun j hj hjf => ?_
        by_cases hji : j = i
        · subst hji
          rw [dstIs_of ho hod]; simp [e]
        · refine hy j hj ?_
          rw [Array.getElem?_setIfInBounds_ne (fun e => hji e.symm)]; exact hjf
    · rcases set_true hj with rfl | hj
      · exact .inr hR
      · exact h.i8 j hj
    · rcases set_true hj with rfl | hj
      · exact set_get (hdeps k hk)
      · exact set_get (h.dc j hj k hk)
    · exact h.rv j hj (set_false hjf).2
theorem Inv.eff (hM : okM l M = true) (h : Inv W N l M done R P E H (fuel + 1) listed a w) {i : Nat} {o : Oper} {Po : Value → Hp → Prop} (ho : l[i]? = some o) (hi : i ∈ Region.ready .any l.toArray listed) (hnR : i ∉ R)
    (hN : ∀ d, o.dst = some d → Nat.ble (d + 1) N = true ∧ cleanE l M R i d = true) (hr : (R.all fun j => !reach M j i) = true) (he : EC P W N l E H o Po) (hx : ∀ v H', Po v H' → Ext H H' ∨ (R.all fun j => reach M i j) = true ∨ Kept P W N l M E H' i R)
    {K : Act → World → Prop} (hK : ∀ v H' w', Po v H' → Inv W N l M (i :: ((List.range l.length).filter fun j => reach M i j) ++ done) R P (putE o.dst v E) H' fuel (listed.setIfInBounds i true) (a.put o.dst v) w' → K (a.put o.dst v) w') :
    wpOp P l.toArray (QQ W N Q) i K a w := by
  obtain ⟨hlt, hf, hdeps⟩ := ready_mem hi h.lsz
  have hag := h.agree hM ho hdeps (fun hR => absurd hR hnR)
  have hs : SatE N E (upd E a) := upd_sat h.size h.defers h.keys
  have hlt' : i < listed.size := by rw [h.lsz]; exact hlt
  have inv : ∀ v H' w', Po v H' → SatH W H' w' → Inv W N l M (i :: ((List.range l.length).filter fun j => reach M i j) ++ done) R P (putE o.dst v E) H' fuel (listed.setIfInBounds i true) (a.put o.dst v) w' := fun v H' w' hP hs' => by
    have hput : ∀ t, (∀ d, o.dst = some d → d ≠ t) → (a.put o.dst v).tmps[t]? = a.tmps[t]? ∧ geti (putE o.dst v E) t = geti E t := fun t ht => by
      cases hd : o.dst with
      | none => exact ⟨rfl, rfl⟩
      | some d =>
        refine ⟨put_get (ht d hd), ?_⟩
        simp only [putE, geti]
        cases hb : Nat.beq d t with
        | true => exact absurd (Nat.eq_of_beq_eq_true hb) (ht d hd)
        | false => rfl
    refine ⟨?_, ?_, by rw [Array.size_setIfInBounds]; exact h.lsz, by have := count_set hf; have := h.cnt; omega, hs', fun t z hz => ?_, fun t z hz hy => ?_, fun j hj hjl => ?_, fun j hj => ?_, fun j hj k hk => ?_, fun j hj hjf => ?_⟩
    · cases hd : o.dst <;> simp [Act.put, h.size]
    · cases hd : o.dst <;> simp [Act.put, h.defers]
    · cases hd : o.dst with
      | none => rw [hd] at hz; exact h.keys t z hz
      | some d =>
        rw [hd] at hz
        simp only [putE, geti] at hz
        cases hb : Nat.beq d t with
        | true => have := Nat.eq_of_beq_eq_true hb; subst this; exact Nat.le_of_ble_eq_true (hN d hd).1
        | false => rw [hb] at hz; exact h.keys t z hz
    · by_cases e : o.dst = some t
      · have hNt := Nat.le_of_ble_eq_true (hN t e).1
        rw [e] at hz ⊢
        simp only [putE, geti, Nat.beq_refl, cond_true, Option.some.injEq] at hz
        subst hz
        exact put_self (by rw [h.size]; omega)
      · obtain ⟨g1, g2⟩ := hput t (fun d hd e' => e (by rw [hd, e']))
        rw [g2] at hz
        rw [g1]
        refine h.i3 t z hz fun j hj hjf => hy j hj ?_
        have hji : j ≠ i := fun e => hnR (e ▸ hj)
        rw [Array.getElem?_setIfInBounds_ne (fun e => hji e.symm)]; exact hjf
    · simp only [List.cons_append, List.mem_cons, List.mem_append, List.mem_filter] at hj
      rcases hj with rfl | ⟨_, hj⟩ | hj
      · exact set_self hlt'
      · exact set_get (reach_listed hM h.dc i j hlt hdeps hj)
      · exact set_get (h.i4 j hj hjl)
    · rcases set_true hj with rfl | hj
      · exact .inl (by simp)
      · rcases h.i8 j hj with h8 | h8
        · exact .inl (by simp [h8])
        · exact .inr h8
    · rcases set_true hj with rfl | hj
      · exact set_get (hdeps k hk)
      · exact set_get (h.dc j hj k hk)
    · obtain ⟨hji, hjf⟩ := set_false hjf
      obtain ⟨oj, dj, vj, h1, h2, h3, h4, h5, h6, h7⟩ := h.rv j hj hjf
      have hnr : reach M i j = false := by
        cases hb : reach M i j with
        | false => rfl
        | true =>
          have := reach_listed hM h.dc i j hlt hdeps hb
          rw [this] at hjf
          cases hjf
      have hnr2 : reach M j i = false := by
        have := List.all_eq_true.1 hr j hj
        simpa using this
      have h4' : RV P W N l E H' oj vj := by
        rcases hx v H' hP with hx | hx | hx
        · exact h4.ext hx
        · have := List.all_eq_true.1 hx j hj
          rw [hnr] at this
          cases this
        · obtain ⟨o', d', v', g1, g2, g3, g4⟩ := hx j hj hnr
          rw [h1] at g1; cases g1
          rw [h2] at g2; cases g2
          rw [h3] at g3; cases g3
          exact g4
      have hjlt : j < l.length := (List.getElem?_eq_some_iff.1 h1).1
      cases hd : o.dst with
      | none => exact ⟨oj, dj, vj, h1, h2, h3, h4', h5, h6, h7⟩
      | some d =>
        have hc := (hN d hd).2
        simp only [cleanE, Bool.and_eq_true] at hc
        have hnd : dstIs l j d = false := by
          have := List.all_eq_true.1 hc.2 j hj
          simpa using this
        have hne : d ≠ dj := by
          rw [dstIs_of h1 h2] at hnd
          intro e
          subst e
          simp at hnd
        have hnl : looks l j d = false := by
          have := List.all_eq_true.1 hc.1 j (List.mem_range.2 hjlt)
          simp only [hnr, hnr2, Bool.or_false, Bool.or_eq_true, beq_iff_eq, Bool.not_eq_eq_eq_not, Bool.not_true] at this
          rcases this with this | this
          · exact absurd this hji
          · exact this
        refine ⟨oj, dj, vj, h1, h2, ?_, h4'.cons h.keys (looks_not h1 hnl), h5, h6, h7⟩
        simp only [putE, geti]
        cases hb : Nat.beq d dj with
        | true => exact absurd (Nat.eq_of_beq_eq_true hb) hne
        | false => exact h3
  obtain ⟨hw1, hm⟩ := he.2 _ w hs h.sat
  rw [hag.wanted] at hw1
  rw [hag.exec he.1] at hm
  unfold wpOp
  simp only [List.getElem?_toArray, ho]
  rw [if_pos hw1]
  refine .inl ?_
  unfold Oper.wp
  revert hm
  cases (execOp a.eval o).run P w with
  | halt x w' => exact fun hm => hm.elim
  | ok n w' =>
    cases n with
    | value v => exact fun ⟨H', h1, h2⟩ => hK v H' w' h2 (inv v H' w' h2 h1)
    | skip => exact fun ⟨H', h1, h2⟩ => hK _ H' w' h2 (inv _ H' w' h2 h1)
    | enter f args =>
      intro hm
      refine Calls.mono hm fun e w'' ⟨v, H', h0, h1, h2⟩ => ?_
      subst h0
      exact hK v H' w'' h2 (inv v H' w'' h2 h1)
    | _ => exact fun hm => hm.elim
end
theorem Dr.sound (hM : okM l M = true) {done R : List Nat} (hd : Dr P W N l M Q done R E H) : ∀ fuel listed a w, Inv W N l M done R P E H fuel listed a w → wpAny P .any l.toArray (QQ W N Q) fuel listed a w := by
  induction hd with
  | @fin done R E H hc hq =>
    intro fuel
    induction fuel with
    | zero =>
      intro listed a w h
      have hall : ∀ i, i < l.length → listed[i]? = some true := fun i hi => by
        have hlt : i < listed.size := by rw [h.lsz]; exact hi
        have hc0 := h.cnt
        have : false ∉ listed.toList := fun hm => by have := List.count_pos_iff.2 hm; omega
        cases hv : listed[i] with
        | true => rw [Array.getElem?_eq_getElem hlt, hv]
        | false => exact absurd (by rw [← hv]; exact Array.mem_toList_iff.2 (Array.getElem_mem hlt)) this
      refine ⟨?_, E, H, ⟨h.size, h.defers, fun t v ht => h.i3 t v ht fun i hi hf => ?_⟩, h.sat, hq⟩
      · cases hr : Region.ready .any l.toArray listed with
        | nil => rfl
        | cons i r =>
          obtain ⟨h1, h2, _⟩ := ready_mem (i := i) (by rw [hr]; exact List.mem_cons_self) h.lsz
          rw [hall i h1] at h2
          cases h2
      · obtain ⟨o, _, _, h1, _⟩ := h.rv i hi hf
        rw [hall i (List.getElem?_eq_some_iff.1 h1).1] at hf
        cases hf
    | succ fuel ih =>
      intro listed a w h
      refine ⟨fun hr => ?_, fun i hi => ?_⟩
      · have hall := all_listed hM h.lsz hr
        refine ⟨E, H, ⟨h.size, h.defers, fun t v ht => h.i3 t v ht fun i hi hf => ?_⟩, h.sat, hq⟩
        obtain ⟨o, _, _, h1, _⟩ := h.rv i hi hf
        rw [hall i (List.getElem?_eq_some_iff.1 h1).1] at hf
        cases hf
      · obtain ⟨h1, h2, _⟩ := ready_mem hi h.lsz
        have := List.all_eq_true.1 hc i (List.mem_range.2 h1)
        simp only [Bool.or_eq_true, List.contains_iff_mem] at this
        rcases this with hm | hm
        · rw [h.i4 i hm h1] at h2
          cases h2
        · obtain ⟨d, v, hK, hI⟩ := h.read hM (Q := Q) hm hi
          exact hK _ (ih _ _ _ hI)
  | @read done R E H i o d v ho hod hN hi hc hv h ih =>
    intro fuel listed a w hI
    refine ih fuel listed a w ?_
    simp only [cleanR, Bool.and_eq_true, Bool.not_eq_eq_eq_not, Bool.not_true, List.all_eq_true, Bool.or_eq_true, beq_iff_eq, List.mem_range] at hc
    obtain ⟨⟨hc1, hc2⟩, hc3⟩ := hc
    simp only [Bool.or_eq_false_iff, List.contains_eq_mem, decide_eq_false_iff_not] at hi
    have hlt : i < l.length := (List.getElem?_eq_some_iff.1 ho).1
    have hiu : listed[i]? = some false := by
      have hlt' : i < listed.size := by rw [hI.lsz]; exact hlt
      cases hb' : listed[i] with
      | false => rw [Array.getElem?_eq_getElem hlt', hb']
      | true =>
        rcases hI.i8 i (by rw [Array.getElem?_eq_getElem hlt', hb']) with h8 | h8
        · exact absurd h8 hi.1
        · exact absurd h8 hi.2
    have hN' := Nat.le_of_ble_eq_true hN
    refine ⟨hI.size, hI.defers, hI.lsz, hI.cnt, hI.sat, fun t z hz => ?_, fun t z hz hy => ?_, hI.i4, fun j hj => ?_, hI.dc, fun j hj hjf => ?_⟩
    · simp only [geti] at hz
      cases hb' : Nat.beq d t with
      | true => have := Nat.eq_of_beq_eq_true hb'; omega
      | false => rw [hb'] at hz; exact hI.keys t z hz
    · have hne : ¬ d = t := fun e => by
        have := hy i List.mem_cons_self hiu
        rw [dstIs_of ho hod] at this
        simp [e] at this
      simp only [geti] at hz
      cases hb' : Nat.beq d t with
      | true => exact absurd (Nat.eq_of_beq_eq_true hb') hne
      | false => rw [hb'] at hz; exact hI.i3 t z hz fun j hj hjf => hy j (List.mem_cons_of_mem _ hj) hjf
    · rcases hI.i8 j hj with h8 | h8
      · exact .inl h8
      · exact .inr (List.mem_cons_of_mem _ h8)
    · rcases List.mem_cons.1 hj with rfl | hj
      · refine ⟨o, d, v, ho, hod, by simp [geti], hv.cons hI.keys (looks_not ho hc1), fun k hk hl => ?_, hc1, hN⟩
        have hkl : k < l.length := by
          rcases Nat.lt_or_ge k l.length with h | h
          · exact h
          · simp [looks, List.getElem?_eq_none h] at hl
        rcases hc2 k hkl with (h1 | h1) | h1
        · exact absurd h1 hk
        · rw [h1] at hl; cases hl
        · exact h1
      · obtain ⟨oj, dj, vj, h1, h2, h3, h4, h5, h6, h7⟩ := hI.rv j hj hjf
        have hne : d ≠ dj := fun e => by
          have := (hc3 j hj).2
          rw [dstIs_of h1 h2] at this
          simp [e] at this
        refine ⟨oj, dj, vj, h1, h2, ?_, h4.cons hI.keys (looks_not h1 (hc3 j hj).1), h5, h6, h7⟩
        simp only [geti]
        cases hb' : Nat.beq d dj with
        | true => exact absurd (Nat.eq_of_beq_eq_true hb') hne
        | false => exact h3
  | @eff done R E H i o Po ho hN hi hc hr he hx h ih =>
    intro fuel
    simp only [Bool.or_eq_false_iff, List.contains_eq_mem, decide_eq_false_iff_not] at hi
    have hlt : i < l.length := (List.getElem?_eq_some_iff.1 ho).1
    have unl : ∀ fuel listed a w, Inv W N l M done R P E H fuel listed a w → listed[i]? = some false := fun fuel listed a w hI => by
      have hlt' : i < listed.size := by rw [hI.lsz]; exact hlt
      cases hb' : listed[i] with
      | false => rw [Array.getElem?_eq_getElem hlt', hb']
      | true =>
        rcases hI.i8 i (by rw [Array.getElem?_eq_getElem hlt', hb']) with h8 | h8
        · exact absurd h8 hi.1
        · exact absurd h8 hi.2
    induction fuel with
    | zero =>
      intro listed a w hI
      exfalso
      have h1 := unl _ _ _ _ hI
      have h2 : false ∈ listed.toList := Array.mem_toList_iff.2 (Array.mem_of_getElem? h1)
      have := List.count_pos_iff.2 h2
      have := hI.cnt
      omega
    | succ fuel ihf =>
      intro listed a w hI
      refine ⟨fun hrd => ?_, fun j hj => ?_⟩
      · have := all_listed hM hI.lsz hrd i hlt
        rw [unl _ _ _ _ hI] at this
        cases this
      · obtain ⟨h1, h2, h3⟩ := ready_mem hj hI.lsz
        have := List.all_eq_true.1 hc j (List.mem_range.2 h1)
        simp only [Bool.or_eq_true, List.contains_iff_mem, beq_iff_eq] at this
        rcases this with ((hm | hm) | rfl) | hm
        · rw [hI.i4 j hm h1] at h2
          cases h2
        · obtain ⟨d, v, hK, hI'⟩ := hI.read hM (Q := Q) hm hj
          exact hK _ (ihf _ _ _ hI')
        · exact hI.eff hM ho hj hi.2 hN hr he hx fun v H' w' hP hI' => ih v H' hP _ _ _ _ hI'
        · have := reach_listed hM hI.dc j i h1 h3 hm
          rw [unl _ _ _ _ hI] at this
          cases this
  | @eff2 done R E H i k o o2 Po Po2 ho ho2 hN hN2 hi hk hc hr hr2 he he2 hx hx2 h h2 ih ih2 =>
    intro fuel
    simp only [Bool.or_eq_false_iff, List.contains_eq_mem, decide_eq_false_iff_not] at hi hk
    have hlt : i < l.length := (List.getElem?_eq_some_iff.1 ho).1
    have hltk : k < l.length := (List.getElem?_eq_some_iff.1 ho2).1
    have unl : ∀ fuel listed a w, Inv W N l M done R P E H fuel listed a w → listed[i]? = some false := fun fuel listed a w hI => by
      have hlt' : i < listed.size := by rw [hI.lsz]; exact hlt
      cases hb' : listed[i] with
      | false => rw [Array.getElem?_eq_getElem hlt', hb']
      | true =>
        rcases hI.i8 i (by rw [Array.getElem?_eq_getElem hlt', hb']) with h8 | h8
        · exact absurd h8 hi.1
        · exact absurd h8 hi.2
    have unlk : ∀ fuel listed a w, Inv W N l M done R P E H fuel listed a w → listed[k]? = some false := fun fuel listed a w hI => by
      have hlt' : k < listed.size := by rw [hI.lsz]; exact hltk
      cases hb' : listed[k] with
      | false => rw [Array.getElem?_eq_getElem hlt', hb']
      | true =>
        rcases hI.i8 k (by rw [Array.getElem?_eq_getElem hlt', hb']) with h8 | h8
        · exact absurd h8 hk.1
        · exact absurd h8 hk.2
    induction fuel with
    | zero =>
      intro listed a w hI
      exfalso
      have h1 := unl _ _ _ _ hI
      have h2 : false ∈ listed.toList := Array.mem_toList_iff.2 (Array.mem_of_getElem? h1)
      have := List.count_pos_iff.2 h2
      have := hI.cnt
      omega
    | succ fuel ihf =>
      intro listed a w hI
      refine ⟨fun hrd => ?_, fun j hj => ?_⟩
      · have := all_listed hM hI.lsz hrd i hlt
        rw [unl _ _ _ _ hI] at this
        cases this
      · obtain ⟨h1, h2, h3⟩ := ready_mem hj hI.lsz
        have := List.all_eq_true.1 hc j (List.mem_range.2 h1)
        simp only [Bool.or_eq_true, List.contains_iff_mem, beq_iff_eq] at this
        rcases this with ((((hm | hm) | rfl) | rfl) | hm) | hm
        · rw [hI.i4 j hm h1] at h2
          cases h2
        · obtain ⟨d, v, hK, hI'⟩ := hI.read hM (Q := Q) hm hj
          exact hK _ (ihf _ _ _ hI')
        · exact hI.eff hM ho hj hi.2 hN hr he hx fun v H' w' hP hI' => ih v H' hP _ _ _ _ hI'
        · exact hI.eff hM ho2 hj hk.2 hN2 hr2 he2 hx2 fun v H' w' hP hI' => ih2 v H' hP _ _ _ _ hI'
        · have := reach_listed hM hI.dc j i h1 h3 hm
          rw [unl _ _ _ _ hI] at this
          cases this
        · have := reach_listed hM hI.dc j k h1 h3 hm
          rw [unlk _ _ _ _ hI] at this
          cases this
  | @eff3 done R E H i k m o o2 o3 Po Po2 Po3 ho ho2 ho3 hN hN2 hN3 hi hk hm3 hc hr hr2 hr3 he he2 he3 hx hx2 hx3 h h2 h3' ih ih2 ih3 =>
    intro fuel
    simp only [Bool.or_eq_false_iff, List.contains_eq_mem, decide_eq_false_iff_not] at hi hk hm3
    have hlt : i < l.length := (List.getElem?_eq_some_iff.1 ho).1
    have hltk : k < l.length := (List.getElem?_eq_some_iff.1 ho2).1
    have hltm : m < l.length := (List.getElem?_eq_some_iff.1 ho3).1
    have unl : ∀ fuel listed a w, Inv W N l M done R P E H fuel listed a w → listed[i]? = some false := fun fuel listed a w hI => by
      have hlt' : i < listed.size := by rw [hI.lsz]; exact hlt
      cases hb' : listed[i] with
      | false => rw [Array.getElem?_eq_getElem hlt', hb']
      | true =>
        rcases hI.i8 i (by rw [Array.getElem?_eq_getElem hlt', hb']) with h8 | h8
        · exact absurd h8 hi.1
        · exact absurd h8 hi.2
    have unlk : ∀ fuel listed a w, Inv W N l M done R P E H fuel listed a w → listed[k]? = some false := fun fuel listed a w hI => by
      have hlt' : k < listed.size := by rw [hI.lsz]; exact hltk
      cases hb' : listed[k] with
      | false => rw [Array.getElem?_eq_getElem hlt', hb']
      | true =>
        rcases hI.i8 k (by rw [Array.getElem?_eq_getElem hlt', hb']) with h8 | h8
        · exact absurd h8 hk.1
        · exact absurd h8 hk.2
    have unlm : ∀ fuel listed a w, Inv W N l M done R P E H fuel listed a w → listed[m]? = some false := fun fuel listed a w hI => by
      have hlt' : m < listed.size := by rw [hI.lsz]; exact hltm
      cases hb' : listed[m] with
      | false => rw [Array.getElem?_eq_getElem hlt', hb']
      | true =>
        rcases hI.i8 m (by rw [Array.getElem?_eq_getElem hlt', hb']) with h8 | h8
        · exact absurd h8 hm3.1
        · exact absurd h8 hm3.2
    induction fuel with
    | zero =>
      intro listed a w hI
      exfalso
      have h1 := unl _ _ _ _ hI
      have h2 : false ∈ listed.toList := Array.mem_toList_iff.2 (Array.mem_of_getElem? h1)
      have := List.count_pos_iff.2 h2
      have := hI.cnt
      omega
    | succ fuel ihf =>
      intro listed a w hI
      refine ⟨fun hrd => ?_, fun j hj => ?_⟩
      · have := all_listed hM hI.lsz hrd i hlt
        rw [unl _ _ _ _ hI] at this
        cases this
      · obtain ⟨h1, h2, h3⟩ := ready_mem hj hI.lsz
        have := List.all_eq_true.1 hc j (List.mem_range.2 h1)
        simp only [Bool.or_eq_true, List.contains_iff_mem, beq_iff_eq] at this
        rcases this with ((((((hm | hm) | rfl) | rfl) | rfl) | hm) | hm) | hm
        · rw [hI.i4 j hm h1] at h2
          cases h2
        · obtain ⟨d, v, hK, hI'⟩ := hI.read hM (Q := Q) hm hj
          exact hK _ (ihf _ _ _ hI')
        · exact hI.eff hM ho hj hi.2 hN hr he hx fun v H' w' hP hI' => ih v H' hP _ _ _ _ hI'
        · exact hI.eff hM ho2 hj hk.2 hN2 hr2 he2 hx2 fun v H' w' hP hI' => ih2 v H' hP _ _ _ _ hI'
        · exact hI.eff hM ho3 hj hm3.2 hN3 hr3 he3 hx3 fun v H' w' hP hI' => ih3 v H' hP _ _ _ _ hI'
        · have := reach_listed hM hI.dc j i h1 h3 hm
          rw [unl _ _ _ _ hI] at this
          cases this
        · have := reach_listed hM hI.dc j k h1 h3 hm
          rw [unlk _ _ _ _ hI] at this
          cases this
        · have := reach_listed hM hI.dc j m h1 h3 hm
          rw [unlm _ _ _ _ hI] at this
          cases this
theorem rep_not {n i : Nat} : (Array.replicate n false)[i]? ≠ some true := fun h => by
  rw [Array.getElem?_replicate] at h
  split at h <;> cases h
theorem AW.draw {id : Nat} {l : List Oper} (hm : P.follows .mixedOrders = true) (hb : okM l M = true) (h : Dr P W N l M Q [] [] E H) (hk : ∀ t v, geti E t = some v → t < N) : AW P W N (.region id l.toArray true) Q E H := fun a w ha hw =>
  wp_region_any hm (h.sound hb _ _ _ _ ⟨ha.size, ha.defers, by simp, by simp [List.count_replicate], hw.drew, hk, fun t v ht _ => ha.get t v ht, (fun i hi => by cases hi), (fun i hi => absurd hi rep_not), (fun i hi => absurd hi rep_not), (fun i hi => by cases hi)⟩)
theorem AW.draw' {id : Nat} {l : List Oper} (M : List Nat) (hm : P.follows .mixedOrders = true) (hb : okM l M = true) (h : Dr P W N l M Q [] [] E H) : AW P W N (.region id l.toArray true) Q E H := fun a w ha hw =>
  AW.draw hm hb h (fun t v ht => by have := (Array.getElem?_eq_some_iff.1 (ha.get t v ht)).1; rw [ha.size] at this; exact this) a w ha hw
/-! ### 5. For the walks -/
theorem RV.of {o : Oper} {v : Value} (hp : plainOp o) (hg : Wants l.toArray E o) (hv : ∀ H2, Ext H H2 → HV P W N E H2 o v) : RV P W N l E H o v :=
  ⟨hp, fun H2 hx a w ha hw => .inl ⟨hg.wanted ha, hv H2 hx a w ha hw⟩⟩
theorem RV.off {d : Nat} {op : Op} {ty : TypeId} {pos : String} {af : Array Edge} {j : Nat} {b c : Bool} {t : Nat} (hp : plainOp ⟨some d, op, ty, pos, af, some (j, b)⟩) (h2 : (l.toArray[j]?).bind (·.dst) = some t) (h3 : geti E t = some (.bool c)) (hne : c ≠ b) :
    RV P W N l E H ⟨some d, op, ty, pos, af, some (j, b)⟩ undef :=
  ⟨hp, fun H2 hx a w ha hw => .inr ⟨by
    simp only [Region.wanted, yielded, h2, Option.bind_some, ha.get t _ h3]
    cases b <;> cases c <;> first | rfl | exact absurd rfl hne, rfl⟩⟩
theorem RV.offu {d : Nat} {op : Op} {ty : TypeId} {pos : String} {af : Array Edge} {j : Nat} {b : Bool} {t : Nat} (hp : plainOp ⟨some d, op, ty, pos, af, some (j, b)⟩) (h2 : (l.toArray[j]?).bind (·.dst) = some t) (h3 : geti E t = some undef) :
    RV P W N l E H ⟨some d, op, ty, pos, af, some (j, b)⟩ undef :=
  ⟨hp, fun H2 hx a w ha hw => .inr ⟨by
    simp only [Region.wanted, yielded, h2, Option.bind_some, ha.get t _ h3]
    cases b <;> rfl, rfl⟩⟩
theorem EC.of {o : Oper} {Po : Value → Hp → Prop} (hp : plainOp o) (hg : Wants l.toArray E o) (hv : WV P W N E H o Po) : EC P W N l E H o Po := ⟨hp, fun a w ha hw => ⟨hg.wanted ha, hv a w ha hw⟩⟩
end Go.Proofs.YteajnanbfkcdcaaDoor.VC
