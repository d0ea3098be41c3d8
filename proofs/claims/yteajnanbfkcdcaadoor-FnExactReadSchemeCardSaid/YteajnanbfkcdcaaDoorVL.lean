/- Two rows side by side in a box: rows that are read, and rows of the call's own. -/
import Derived.Test.YteajnanbfkcdcaaDoorVS
set_option linter.unusedVariables false
set_option linter.unusedSimpArgs false
namespace Go.Proofs.YteajnanbfkcdcaaDoor.VC
open Go Go.RowKit
variable {W : World} {H : Hp}
def kV : Kd Value where
  sz := 1
  rd := fun _ _ _ x cs => cs = [x] ∧ ∃ n, IsSl x n
  len := fun h => by rw [h.1]; rfl
  one := fun h u hu => by
    obtain ⟨h1, n, h2⟩ := h
    exact sl_one h2 u (by rw [sl_cells h2, ← h1]; exact hu)
  but := fun _ _ _ h => h
  okk := fun _ h => h
theorem kV_flat : Flat kV := fun _ _ _ _ _ _ _ h => h
theorem But.thru2 {out out2 : Nat → Prop} {H H' H'' : Hp} (h : But out H H') (k : But out2 H' H'') (ho : ∀ b, out2 b → out b ∨ H.bd ≤ b) : But out H H'' :=
  ⟨Nat.le_trans h.bd k.bd, fun b x hb hn => k.m b x (h.m b x hb hn) (fun q => by
    rcases ho b q with h1 | h1
    · exact hn h1
    · have := H.lt b x hb; omega)⟩
structure LV (W : World) (H B : Hp) (T e b : Nat) (n : Int) (st : List (List Int × List Int)) (lab : Nat → Nat) (vl vc : Value) (lv cv : List Value) : Prop where
  hb : At W H b ⟨T, [.int .i64 n, vl, vc], 3⟩
  bB : B.bd ≤ b
  lb : lab b = 0
  hl : OwnK kV e W H (fun x => B.bd ≤ x ∧ lab x = 1) vl lv
  hc : OwnK kV e W H (fun x => B.bd ≤ x ∧ lab x = 2) vc cv
  ll : lv.length = st.length
  lc : cv.length = st.length
  rl : ∀ (j : Nat) (v : Value) (x : List Int × List Int), lv[j]? = some v → st[j]? = some x → RdK kI W H (fun y => B.bd ≤ y ∧ lab y = 3) v x.1
  rc : ∀ (j : Nat) (v : Value) (x : List Int × List Int), cv[j]? = some v → st[j]? = some x → OwnK kI 2 W H (fun y => B.bd ≤ y ∧ lab y = 4 + j) v x.2
section
variable {B : Hp} {T e b : Nat} {n : Int} {st : List (List Int × List Int)} {lab : Nat → Nat} {vl vc : Value} {lv cv : List Value}
theorem rd_raw {β : Type} {K : Kd β} {ok : Nat → Prop} {v : Value} {vs : List Value} {l : List (List β)} {okx : Nat → Prop} (h : OwnK kV e W H okx v vs) (hl : vs.length = l.length) (hr : ∀ (j : Nat) (u : Value) (x : List β), vs[j]? = some u → l[j]? = some x → RdK K W H ok u x) : RdK (kR K) W H (fun _ => True) v l := by
  obtain ⟨css, h1, h2⟩ := h
  have hf : css.flatten = vs := by
    apply List.ext_getElem?
    intro j
    have hfl := h1.flat (fun _ _ _ h => kV.len h)
    by_cases hj : j < vs.length
    · have hc : j < css.length := by rw [h1.1]; exact hj
      have h3 := h1.2 j _ _ (List.getElem?_eq_getElem hj) (List.getElem?_eq_getElem hc)
      have := flat_get (n := 1) hfl.1 (List.getElem?_eq_getElem hc) (j := 0) (u := vs[j]) (by rw [h3.1]; rfl)
      rw [Nat.mul_one, Nat.add_zero] at this
      rw [this, List.getElem?_eq_getElem hj]
    · rw [List.getElem?_eq_none (by rw [hfl.2]; show vs.length * 1 ≤ j; omega), List.getElem?_eq_none (by omega)]
  refine ⟨vs.map (fun u => [u]), ⟨by rw [List.length_map, hl], fun i x cs q1 q2 => ?_⟩, ?_⟩
  · rw [List.getElem?_map, Option.map_eq_some_iff] at q2
    obtain ⟨u, hu, rfl⟩ := q2
    exact ⟨u, rfl, (hr i u x hu q1).okk (fun _ _ _ => trivial)⟩
  · have e1 : (vs.map (fun u => [u])).flatten = css.flatten := by
      rw [hf]
      clear h1 h2 hf hl hr
      induction vs with
      | nil => rfl
      | cons a vs ih => simp [ih]
    rw [e1, ← hl]
    exact h2.rd.ok (fun _ _ _ => trivial)
theorem LV.rdL (h : LV W H B T e b n st lab vl vc lv cv) : RdK (kR kI) W H (fun _ => True) vl (st.map Prod.fst) :=
  rd_raw (ok := fun _ => True) h.hl (by rw [h.ll, List.length_map]) (fun j u x h1 h2 => by
    rw [List.getElem?_map, Option.map_eq_some_iff] at h2
    obtain ⟨y, hy, rfl⟩ := h2
    exact (h.rl j u y h1 hy).okk (ok' := fun _ => True) (fun _ _ _ => trivial))
theorem LV.rdC (h : LV W H B T e b n st lab vl vc lv cv) : RdK (kR kI) W H (fun _ => True) vc (st.map Prod.snd) :=
  rd_raw (ok := fun _ => True) h.hc (by rw [h.lc, List.length_map]) (fun j u x h1 h2 => by
    rw [List.getElem?_map, Option.map_eq_some_iff] at h2
    obtain ⟨y, hy, rfl⟩ := h2
    exact (h.rc j u y h1 hy).rd.okk (ok' := fun _ => True) (fun _ _ _ => trivial))
/-- What is new are views. -/
theorem LV.more {H' : Hp} (h : LV W H B T e b n st lab vl vc lv cv) (X : Ext H H') : LV W H' B T e b n st (fun x => if H.bd ≤ x then 3 else lab x) vl vc lv cv :=
  ⟨h.hb.ext X, h.bB, by have := h.hb.lt; rw [if_neg (by omega)]; exact h.lb, (h.hl.okk (fun x hx hlt => ⟨hx.1, by rw [if_neg (by omega)]; exact hx.2⟩)).ext X, (h.hc.okk (fun x hx hlt => ⟨hx.1, by rw [if_neg (by omega)]; exact hx.2⟩)).ext X, h.ll, h.lc,
    fun j v x h1 h2 => ((h.rl j v x h1 h2).okk (fun x hx hlt => ⟨hx.1, by rw [if_neg (by omega)]; exact hx.2⟩)).ext X, fun j v x h1 h2 => ((h.rc j v x h1 h2).okk (fun x hx hlt => ⟨hx.1, by rw [if_neg (by omega)]; exact hx.2⟩)).ext X⟩
/-- A count goes up. -/
theorem LV.inc {H1 H2 : Hp} {i : Nat} {z : Value} {x : List Int × List Int} {c' : List Int} {okx : Nat → Prop} (h : LV W H B T e b n st lab vl vc lv cv) (X : Ext H H1) (hz : cv[i]? = some z) (hx : st[i]? = some x) (k : But (fun y => some y = z.ownBlock) H1 H2) (hR : OwnK kI 2 W H2 okx z c') :
    LV W H2 B T e b n (st.set i (x.1, c')) lab vl vc lv cv := by
  have hO := h.rc i z x hz hx
  have hzb := hO.blk
  have hW : ∀ y, some y = z.ownBlock → W.heap.size ≤ y := fun y q => (hzb y q).2.2
  have hi : i < st.length := (List.getElem?_eq_some_iff.1 hx).1
  have old : ∀ j y, st[j]? = some y → j ≠ i → (st.set i (x.1, c'))[j]? = some y := fun j y hy hn => by rw [List.getElem?_set_ne (fun e => hn e.symm)]; exact hy
  refine ⟨(h.hb.ext X).but k (fun q => by have := (hzb b q).1.2; have := h.lb; omega), h.bB, h.lb, (h.hl.ext X).but k (fun y hy _ q => by have := (hzb y q).1.2; have := hy.2; omega) hW, (h.hc.ext X).but k (fun y hy _ q => by have := (hzb y q).1.2; have := hy.2; omega) hW, by rw [List.length_set]; exact h.ll, by rw [List.length_set]; exact h.lc, fun j v y h1 h2 => ?_, fun j v y h1 h2 => ?_⟩
  · rw [List.getElem?_set] at h2
    have q : ∃ y0, st[j]? = some y0 ∧ y0.1 = y.1 := by
      split at h2
      · rename_i e1
        subst e1
        cases h2
        exact ⟨x, hx, rfl⟩
      · exact ⟨y, h2, rfl⟩
    obtain ⟨y0, hy0, e0⟩ := q
    rw [← e0]
    exact ((h.rl j v y0 h1 hy0).ext X).but k (fun y hy _ q => by have := (hzb y q).1.2; have := hy.2; omega) hW
  · rw [List.getElem?_set] at h2
    split at h2
    · rename_i e1
      subst e1
      cases h2
      rw [hz] at h1
      cases h1
      exact hR.narrow kI_flat (fun y q => (hzb y q).1)
    · rename_i hne
      exact ((h.rc j v y h1 h2).ext X).but k (fun y hy _ q => by have := (hzb y q).1.2; have := hy.2; omega) hW
/-- A view and its counts are put in. -/
theorem LV.new {H' : Hp} {i : Nat} {vl2 vc2 vw vR : Value} {g cR : List Int} {okl okc okR : Nat → Prop} (h : LV W H B T e b n st lab vl vc lv cv) (hBH : B.bd ≤ H.bd) (hi : i ≤ st.length) (ch : But (fun x => x = b ∨ some x = vl.ownBlock ∨ some x = vc.ownBlock) H H') (hb : At W H' b ⟨T, [.int .i64 n, vl2, vc2], 3⟩)
    (hl : OwnK kV e W H' okl vl2 (insL lv i vw)) (hc : OwnK kV e W H' okc vc2 (insL cv i vR)) (hw : RdK kI W H (fun y => B.bd ≤ y ∧ lab y = 3) vw g) (hR : OwnK kI 2 W H' okR vR cR)
    (LB : ∀ x, some x = vl2.ownBlock → some x = vl.ownBlock ∨ H.bd ≤ x) (CB : ∀ x, some x = vc2.ownBlock → some x = vc.ownBlock ∨ H.bd ≤ x) (RB : ∀ x, some x = vR.ownBlock → H.bd ≤ x)
    (dLC : ∀ x, some x = vl2.ownBlock → some x = vc2.ownBlock → False) (dRL : ∀ x, some x = vR.ownBlock → some x = vl2.ownBlock → False) (dRC : ∀ x, some x = vR.ownBlock → some x = vc2.ownBlock → False) :
    ∃ lab', LV W H' B T e b n (insL st i (g, cR)) lab' vl2 vc2 (insL lv i vw) (insL cv i vR) := by
  have hlb := h.hl.blk
  have hcb := h.hc.blk
  have hbl := h.hb.lt
  have outs : ∀ x, (x = b ∨ some x = vl.ownBlock ∨ some x = vc.ownBlock) → x < H.bd ∧ W.heap.size ≤ x ∧ lab x ≤ 2 := fun x hx => by
    rcases hx with rfl | hx | hx
    · exact ⟨hbl, h.hb.w, by rw [h.lb]; omega⟩
    · have := hlb x hx; exact ⟨this.2.1, this.2.2, by omega⟩
    · have := hcb x hx; exact ⟨this.2.1, this.2.2, by omega⟩
  let lab' : Nat → Nat := fun x => if H.bd ≤ x then (if some x = vl2.ownBlock then 1 else if some x = vc2.ownBlock then 2 else 4 + i) else if 4 + i ≤ lab x then lab x + 1 else lab x
  have low : ∀ x, x < H.bd → lab' x = if 4 + i ≤ lab x then lab x + 1 else lab x := fun x hx => if_neg (by omega)
  have hil : i ≤ lv.length := by rw [h.ll]; exact hi
  have hic : i ≤ cv.length := by rw [h.lc]; exact hi
  have key : ∀ (P : Nat → Prop), (∀ x, P x → x < H.bd → ¬ (x = b ∨ some x = vl.ownBlock ∨ some x = vc.ownBlock)) → ∀ x, P x → x < H.bd → ¬ (x = b ∨ some x = vl.ownBlock ∨ some x = vc.ownBlock) := fun P h => h
  refine ⟨lab', hb, h.bB, ?_, hl.narrow kV_flat (fun x q => ?_), hc.narrow kV_flat (fun x q => ?_), by rw [insL_len, insL_len, h.ll], by rw [insL_len, insL_len, h.lc], fun j v y h1 h2 => ?_, fun j v y h1 h2 => ?_⟩
  · rw [low b hbl, if_neg (by rw [h.lb]; omega)]; exact h.lb
  · rcases LB x q with q1 | q1
    · have := hlb x q1
      exact ⟨this.1.1, by rw [low x this.2.1, if_neg (by omega)]; exact this.1.2⟩
    · exact ⟨by omega, by show (if H.bd ≤ x then _ else _) = 1; rw [if_pos q1, if_pos q]⟩
  · rcases CB x q with q1 | q1
    · have := hcb x q1
      exact ⟨this.1.1, by rw [low x this.2.1, if_neg (by omega)]; exact this.1.2⟩
    · exact ⟨by omega, by show (if H.bd ≤ x then _ else _) = 2; rw [if_pos q1, if_neg (fun q2 => dLC x q2 q), if_pos q]⟩
  · -- views
    have views : ∀ {v x1}, RdK kI W H (fun y => B.bd ≤ y ∧ lab y = 3) v x1 → RdK kI W H' (fun y => B.bd ≤ y ∧ lab' y = 3) v x1 := fun {v x1} hr => by
      have h3 : RdK kI W H (fun y => (B.bd ≤ y ∧ lab y = 3) ∧ y < H.bd) v x1 := hr.okk (fun y hy hlt => ⟨hy, hlt⟩)
      exact (h3.but ch (fun y hy _ q => by have := (outs y q).2.2; have := hy.1.2; omega) (fun y q => (outs y q).2.1)).okk (fun y hy _ => ⟨hy.1.1, by rw [low y hy.2, if_neg (by have := hy.1.2; omega)]; exact hy.1.2⟩)
    rw [insL_get hil] at h1
    rw [insL_get hi] at h2
    by_cases c1 : j < i
    · rw [if_pos c1] at h1 h2; exact views (h.rl j v y h1 h2)
    · rw [if_neg c1] at h1 h2
      by_cases c2 : j = i
      · rw [if_pos c2] at h1 h2; cases h1; cases h2; exact views hw
      · rw [if_neg c2] at h1 h2; exact views (h.rl (j - 1) v y h1 h2)
  · have cnts : ∀ {v x1 j m}, OwnK kI 2 W H (fun y => B.bd ≤ y ∧ lab y = 4 + j) v x1 → (m = if i ≤ j then j + 1 else j) → OwnK kI 2 W H' (fun y => B.bd ≤ y ∧ lab' y = 4 + m) v x1 := fun {v x1 j m} hr hm => by
      have h3 : OwnK kI 2 W H (fun y => (B.bd ≤ y ∧ lab y = 4 + j) ∧ y < H.bd) v x1 := hr.okk (fun y hy hlt => ⟨hy, hlt⟩)
      refine (h3.but ch (fun y hy _ q => by have := (outs y q).2.2; have := hy.1.2; omega) (fun y q => (outs y q).2.1)).okk (fun y hy _ => ⟨hy.1.1, ?_⟩)
      rw [low y hy.2, hy.1.2, hm]
      by_cases c : i ≤ j
      · rw [if_pos (by omega), if_pos c]; omega
      · rw [if_neg (by omega), if_neg c]
    rw [insL_get hic] at h1
    rw [insL_get hi] at h2
    by_cases c1 : j < i
    · rw [if_pos c1] at h1 h2; exact cnts (h.rc j v y h1 h2) (by rw [if_neg (by omega)])
    · rw [if_neg c1] at h1 h2
      by_cases c2 : j = i
      · rw [if_pos c2] at h1 h2; cases h1; cases h2; subst c2
        exact hR.narrow kI_flat (fun x q => ⟨by have := RB x q; omega, by show (if H.bd ≤ x then _ else _) = 4 + j; rw [if_pos (RB x q), if_neg (fun q2 => dRL x q q2), if_neg (fun q2 => dRC x q q2)]⟩)
      · rw [if_neg c2] at h1 h2; exact cnts (h.rc (j - 1) v y h1 h2) (by rw [if_pos (by omega)]; omega)
end
/-- Elements go up by one place. -/
structure ShiftL {α : Type} (l : List α) (p i : Nat) (k : List α) : Prop where
  len : k.length = l.length + 1
  lo : ∀ j, j < i → k[j]? = l[j]?
  hi : ∀ j, i < j → j ≤ l.length → k[j]? = l[j - 1]?
theorem ShiftL.start {α : Type} {l : List α} {p : Nat} {x : α} : ShiftL l p l.length (l ++ [x]) :=
  ⟨by simp, fun j hj => List.getElem?_append_left hj, fun j h1 h2 => by omega⟩
theorem ShiftL.step {α : Type} {l k : List α} {p i : Nat} {z : α} (h : ShiftL l p i k) (hi : 0 < i) (hil : i ≤ l.length) (hz : k[i - 1]? = some z) : ShiftL l p (i - 1) (k.set i z) := by
  refine ⟨by rw [List.length_set]; exact h.len, fun j hj => ?_, fun j h1 h2 => ?_⟩
  · rw [List.getElem?_set_ne (by omega)]; exact h.lo j (by omega)
  · by_cases e : j = i
    · subst e
      rw [List.getElem?_set_self (by rw [h.len]; omega), ← hz]
      exact h.lo (j - 1) (by omega)
    · rw [List.getElem?_set_ne (fun q => e q.symm)]
      exact h.hi j (by omega) h2
theorem ShiftL.done {α : Type} {l k : List α} {p : Nat} {x : α} (h : ShiftL l p p k) (hp : p ≤ l.length) : k.set p x = insL l p x := by
  apply List.ext_getElem?
  intro j
  rw [insL_get hp]
  by_cases c1 : j < p
  · rw [List.getElem?_set_ne (by omega), if_pos c1]; exact h.lo j c1
  · rw [if_neg c1]
    by_cases c2 : j = p
    · subst c2; rw [List.getElem?_set_self (by rw [h.len]; omega), if_pos rfl]
    · rw [if_neg c2, List.getElem?_set_ne (fun q => c2 q.symm)]
      by_cases c3 : j ≤ l.length
      · exact h.hi j (by omega) c3
      · rw [List.getElem?_eq_none (by rw [h.len]; omega), List.getElem?_eq_none (by omega)]
end Go.Proofs.YteajnanbfkcdcaaDoor.VC
