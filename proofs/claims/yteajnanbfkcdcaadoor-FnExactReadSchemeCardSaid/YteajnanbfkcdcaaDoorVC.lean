/- The rules of memory: loads, stores, new blocks, slices, appends, calls. -/
import Derived.Test.YteajnanbfkcdcaaDoorVB
set_option linter.unusedVariables false
set_option linter.unusedSimpArgs false
namespace Go.Proofs.YteajnanbfkcdcaaDoor.VC
open Go Go.RowKit
variable {P : Program} {W : World} {N : Nat} {Q : Exit → List (Nat × Value) → Hp → Prop} {E : List (Nat × Value)} {H : Hp} {ops : Array Oper} {rest : List Oper} {o : Oper}
/-! ### 1. Blocks, slices that are read, slices of the call's own -/
structure At (W : World) (H : Hp) (b : Nat) (x : Blk) : Prop where
  m : H.m b = some x
  w : W.heap.size ≤ b
theorem At.but {out : Nat → Prop} {H H' : Hp} {b : Nat} {x : Blk} (h : At W H b x) (k : But out H H') (ho : ¬ out b) : At W H' b x := ⟨k.m b x h.m ho, h.w⟩
theorem At.ext {H H' : Hp} {b : Nat} {x : Blk} (h : At W H b x) (k : Ext H H') : At W H' b x := ⟨k.get h.m, h.w⟩
theorem At.lt {b : Nat} {x : Blk} (h : At W H b x) : b < H.bd := H.lt b x h.m
theorem At.rd {b : Nat} {x : Blk} (h : At W H b x) {j : Nat} {u : Value} (hu : x.pre[j]? = some u) : rdc W H ⟨b, j, none⟩ = some u := by
  unfold rdc
  have := h.w
  simp only [Option.isSome_none, Bool.false_eq_true, if_false, h.m]
  rw [if_neg (by omega)]
  exact hu
theorem add_at (b i j : Nat) : (⟨b, i, none⟩ : Addr).add j = ⟨b, i + j, none⟩ := by unfold Addr.add; split <;> simp_all
theorem block_add (a : Addr) (i : Nat) : (a.add i).block = a.block := by unfold Addr.add; split <;> rfl
theorem add_add (a : Addr) (i j : Nat) : (a.add i).add j = a.add (i + j) := by
  unfold Addr.add
  by_cases hi : i = 0 <;> by_cases hj : j = 0 <;> simp_all [Nat.add_assoc]
/-- A slice of m elements whose cells are these. -/
structure RdV (W : World) (H : Hp) (ok : Nat → Prop) (sz : Nat) (v : Value) (m : Nat) (cells : List Value) : Prop where
  len : cells.length = m * sz
  one : ∀ u ∈ cells, u.oneCell' = true
  at_ : ∃ A c, v = .slice A m c ∧ m ≤ c ∧ c ≤ maxLen ∧ (A = none → c = 0) ∧ (∀ ad, A = some ad → 0 < m → ∀ j u, cells[j]? = some u → rdc W H (ad.add j) = some u ∧ (W.heap.size ≤ ad.block → ok ad.block ∧ ad.block < H.bd))
theorem RdV.isSl {ok : Nat → Prop} {sz : Nat} {v : Value} {m : Nat} {cells : List Value} (h : RdV W H ok sz v m cells) : IsSl v m := by
  obtain ⟨A, c, rfl, _⟩ := h.at_
  exact ⟨A, c, rfl⟩
theorem RdV.but {out ok : Nat → Prop} {H' : Hp} {sz : Nat} {v : Value} {m : Nat} {cells : List Value} (h : RdV W H ok sz v m cells) (k : But out H H') (ho : ∀ b, ok b → b < H.bd → ¬ out b) (hW : ∀ b, out b → W.heap.size ≤ b) : RdV W H' ok sz v m cells := by
  obtain ⟨h1, h2, A, c, rfl, h3, h4, h5, h6⟩ := h
  refine ⟨h1, h2, A, c, rfl, h3, h4, h5, fun ad hA hm j u hu => ?_⟩
  obtain ⟨g1, g2⟩ := h6 ad hA hm j u hu
  refine ⟨rdc_but k g1 ?_, fun hw => ⟨(g2 hw).1, Nat.lt_of_lt_of_le (g2 hw).2 k.bd⟩⟩
  rw [block_add]
  intro hn
  obtain ⟨i1, i2⟩ := g2 (hW _ hn)
  exact ho _ i1 i2 hn
theorem RdV.ext {ok : Nat → Prop} {H' : Hp} {sz : Nat} {v : Value} {m : Nat} {cells : List Value} (h : RdV W H ok sz v m cells) (k : Ext H H') : RdV W H' ok sz v m cells := h.but k (fun _ _ _ f => f) (fun _ f => f.elim)
theorem RdV.ok {ok ok' : Nat → Prop} {sz : Nat} {v : Value} {m : Nat} {cells : List Value} (h : RdV W H ok sz v m cells) (k : ∀ b, ok b → b < H.bd → ok' b) : RdV W H ok' sz v m cells := by
  obtain ⟨h1, h2, A, c, rfl, h3, h4, h5, h6⟩ := h
  refine ⟨h1, h2, A, c, rfl, h3, h4, h5, fun ad hA hm j u hu => ?_⟩
  obtain ⟨g1, g2⟩ := h6 ad hA hm j u hu
  exact ⟨g1, fun hw => ⟨k _ (g2 hw).1 (g2 hw).2, (g2 hw).2⟩⟩
/-- A slice of the call's own. -/
structure OwnV (W : World) (H : Hp) (ok : Nat → Prop) (e sz : Nat) (v : Value) (m : Nat) (cells : List Value) : Prop where
  len : cells.length = m * sz
  one : ∀ u ∈ cells, u.oneCell' = true
  at_ : (v = .slice none 0 0 ∧ m = 0) ∨ ∃ g c, v = .slice (some ⟨g, 0, none⟩) m c ∧ ok g ∧ At W H g ⟨e, cells, c * sz⟩ ∧ m ≤ c ∧ c ≤ maxLen
theorem OwnV.but {out ok : Nat → Prop} {H' : Hp} {e sz : Nat} {v : Value} {m : Nat} {cells : List Value} (h : OwnV W H ok e sz v m cells) (k : But out H H') (ho : ∀ b, ok b → b < H.bd → ¬ out b) : OwnV W H' ok e sz v m cells := by
  obtain ⟨h1, h2, h3⟩ := h
  refine ⟨h1, h2, ?_⟩
  rcases h3 with h3 | ⟨g, c, h3, h4, h5, h6⟩
  · exact .inl h3
  · exact .inr ⟨g, c, h3, h4, h5.but k (ho g h4 h5.lt), h6⟩
theorem OwnV.ext {ok : Nat → Prop} {H' : Hp} {e sz : Nat} {v : Value} {m : Nat} {cells : List Value} (h : OwnV W H ok e sz v m cells) (k : Ext H H') : OwnV W H' ok e sz v m cells := h.but k (fun _ _ _ f => f)
theorem OwnV.ok {ok ok' : Nat → Prop} {e sz : Nat} {v : Value} {m : Nat} {cells : List Value} (h : OwnV W H ok e sz v m cells) (k : ∀ b, ok b → b < H.bd → ok' b) : OwnV W H ok' e sz v m cells := by
  obtain ⟨h1, h2, h3⟩ := h
  refine ⟨h1, h2, ?_⟩
  rcases h3 with h3 | ⟨g, c, h3, h4, h5, h6⟩
  · exact .inl h3
  · exact .inr ⟨g, c, h3, k g h4 h5.lt, h5, h6⟩
theorem OwnV.rd {ok : Nat → Prop} {e sz : Nat} {v : Value} {m : Nat} {cells : List Value} (h : OwnV W H ok e sz v m cells) : RdV W H ok sz v m cells := by
  obtain ⟨h1, h2, h3⟩ := h
  refine ⟨h1, h2, ?_⟩
  rcases h3 with ⟨rfl, rfl⟩ | ⟨g, c, rfl, h4, h5, h6, h7⟩
  · exact ⟨none, 0, rfl, Nat.le_refl _, Nat.zero_le _, fun _ => rfl, (fun ad h => by cases h)⟩
  · refine ⟨_, c, rfl, h6, h7, (fun h => by cases h), fun ad had hm j u hu => ?_⟩
    cases had
    rw [add_at, Nat.zero_add]
    exact ⟨h5.rd hu, fun _ => ⟨h4, h5.lt⟩⟩
theorem OwnV.isSl {ok : Nat → Prop} {e sz : Nat} {v : Value} {m : Nat} {cells : List Value} (h : OwnV W H ok e sz v m cells) : IsSl v m := h.rd.isSl
theorem OwnV.nil (ok : Nat → Prop) (e sz : Nat) : OwnV W H ok e sz (.slice none 0 0) 0 [] := ⟨by simp, (fun u h => by cases h), .inl ⟨rfl, rfl⟩⟩
theorem OwnV.owns {ok : Nat → Prop} {e sz : Nat} {v : Value} {m : Nat} {cells : List Value} (h : OwnV W H ok e sz v m cells) {w : World} (hw : SatH W H w) : w.ownsRow W.heap.size e sz v m cells := by
  obtain ⟨h1, h2, h3⟩ := h
  refine ⟨h1, ?_⟩
  rcases h3 with h3 | ⟨g, c, rfl, h4, h5, h6, h7⟩
  · exact .inl h3
  · obtain ⟨_, cur, hc, hl, ht⟩ := hw.own _ _ h5.m
    exact .inr ⟨g, c, cur, rfl, h5.w, hc, h6, h7, hl, by rw [← h1]; exact ht⟩
/-- What is known when a row has grown, or been made: the rest is as it was. -/
theorem SatH.grown {H : Hp} {w w' : World} (hw : SatH W H w) {row : Option Nat} (hg : w.grownBy w' row) (hr : ∀ k, row = some k → W.heap.size ≤ k) {e sz : Nat} {v : Value} {m : Nat} {cells : List Value} (h1 : ∀ u ∈ cells, u.oneCell' = true)
    (ho : w'.ownsRow W.heap.size e sz v m cells) (hat : v.ownBlock = row ∨ v.ownBlock = some w.heap.size) :
    ∃ H', SatH W H' w' ∧ But (fun b => some b = row) H H' ∧ OwnV W H' (fun b => some b = row ∨ H.bd ≤ b) e sz v m cells := by
  have hb : Below W.heap.size W w' := hw.below.grown hg hw.below.size hr
  -- what is known without the row
  have hlt : ∀ k x, (if some k = row then none else H.m k) = some x → k < H.bd := fun k x hk => by
    split at hk
    · cases hk
    · exact H.lt k x hk
  let H1 : Hp := ⟨fun k => if some k = row then none else H.m k, H.bd, hlt⟩
  have g1 : ∀ b x, H1.m b = some x → some b ≠ row ∧ H.m b = some x := fun b x hx => by
    simp only [H1] at hx
    split at hx
    · cases hx
    · rename_i hne; exact ⟨hne, hx⟩
  have hs1 : SatH W H1 w' := by
    refine ⟨hb, Nat.le_trans hw.bd hg.size, fun b x hx => ?_⟩
    obtain ⟨hne, hx⟩ := g1 b x hx
    obtain ⟨k1, cur, k2, k3⟩ := hw.own b x hx
    exact ⟨k1, cur, (hg.block b (Array.getElem?_eq_some_iff.1 k2).1 hne).trans k2, k3⟩
  have hb1 : But (fun b => some b = row) H H1 := ⟨Nat.le_refl _, fun b x hx hn => by simp only [H1]; rw [if_neg hn]; exact hx⟩
  rcases ho.2 with ⟨rfl, rfl⟩ | ⟨g, c, cur, rfl, hbg, hc, hmc, hcm, hl, ht⟩
  · have : cells = [] := List.eq_nil_of_length_eq_zero (by simpa using ho.1)
    subst this
    exact ⟨H1, hs1, hb1, OwnV.nil _ _ _⟩
  · have hgr : some g = row ∨ g = w.heap.size := by
      rcases hat with h | h
      · exact .inl h
      · exact .inr (by simpa [Value.ownBlock] using h)
    refine ⟨H1.put g ⟨e, cells, c * sz⟩, ⟨hb, ?_, fun b x hx => ?_⟩, hb1.trans ⟨(H1.put_but g _).bd, fun b x hx hn => ?_⟩, ho.1, h1, .inr ⟨g, c, rfl, ?_, ⟨H1.put_self g _, hbg⟩, hmc, hcm⟩⟩
    · have k1 := (Array.getElem?_eq_some_iff.1 hc).1
      have k2 := hw.bd
      have k3 := hg.size
      simp only [Hp.put, H1]; omega
    · simp only [Hp.put] at hx
      split at hx
      · rename_i e1
        subst e1
        injection hx with hx
        subst hx
        exact ⟨hbg, cur, hc, hl, by rw [show cells.length = m * sz from ho.1]; exact ht⟩
      · exact hs1.own b x hx
    · have hbg' : b ≠ g := by
        rintro rfl
        rcases hgr with h | h
        · exact hn h
        · obtain ⟨_, k1⟩ := g1 b x hx
          have := H.lt b x k1
          have := hw.bd
          omega
      simp only [Hp.put]; rw [if_neg hbg']; exact hx
    · rcases hgr with h | h
      · exact .inl h
      · right; rw [h]; exact hw.bd
/-! ### 2. Loads and stores -/
section
variable {d : Nat} {ty : TypeId} {pos : String} {af : Array Edge} {gd : Option (Nat × Bool)} {op : Op} {t : TypeId} {x y : Operand}
theorem run_plain {t : TypeId} {ds : TypeDesc} (hu : P.underlying t = some ds) (hd : aggD ds = false) (w : World) : (isAgg t).run P w = .ok false w := by
  unfold isAgg
  rw [Sem.run_bind, run_underlying hu w]
  cases ds <;> first | rfl | cases hd
theorem run_loadVar_one {w : World} {p : Addr} {v : Value} {n : Nat} (ht : VarT P t false n) (hr : w.cell? p = some v) : (loadVar t p).run P w = .ok v w := by
  obtain ⟨⟨ds, hu, hd⟩, _⟩ := ht
  have : (isAgg t).run P w = .ok false w := run_plain hu hd w
  simp [loadVar, this, hr]
theorem run_loadVar_agg {w : World} {p : Addr} {cs : List Value} (ht : VarT P t true cs.length) (hr : ∀ j u, cs[j]? = some u → w.cell? (p.add j) = some u) : (loadVar t p).run P w = .ok (.agg cs.toArray) w := by
  obtain ⟨⟨ds, hu, hd⟩, i, hi, hs⟩ := ht
  have ha : (isAgg t).run P w = .ok true w := by
    unfold isAgg
    rw [Sem.run_bind, run_underlying hu w]
    cases ds <;> first | rfl | cases hd
  have hl := run_loadCells_list (P := P) w p cs hr
  simp [loadVar, ha, sizeOf, typeInfo, hi, hs, hl]
theorem HV.ld {p : Addr} {v : Value} {n : Nat} (hx : evl E x = some (.pointer (some p))) (ht : VarT P t false n) (hr : rdc W H p = some v) : HV P W N E H ⟨some d, .load t x, ty, pos, af, gd⟩ (v) :=
  (fun a w ha hw => by simp [execOp, ha.ev hx, Instr.loadAt, Instr.sureAddr, run_loadVar_one ht (hw.cell hr)])
theorem HV.lda {p : Addr} {cs : List Value} (hx : evl E x = some (.pointer (some p))) (ht : VarT P t true cs.length) (hr : ∀ j u, cs[j]? = some u → rdc W H (p.add j) = some u) : HV P W N E H ⟨some d, .load t x, ty, pos, af, gd⟩ (.agg cs.toArray) :=
  (fun a w ha hw => by simp [execOp, ha.ev hx, Instr.loadAt, Instr.sureAddr, run_loadVar_agg ht (fun j u hu => hw.cell (hr j u hu))])
/-- A list with a part put in. -/
def splice (l : List Value) (i : Nat) (vs : List Value) : List Value := l.take i ++ vs ++ l.drop (i + vs.length)
theorem splice_length (l : List Value) (i : Nat) (vs : List Value) (h : i + vs.length ≤ l.length) : (splice l i vs).length = l.length := by simp [splice]; omega
theorem splice_take (l : List Value) (n i : Nat) (vs : List Value) (h : i + vs.length ≤ n) (hn : n ≤ l.length) : (splice l i vs).take n = splice (l.take n) i vs := by
  unfold splice
  rw [List.take_append, List.take_append, List.take_take, List.take_take, List.drop_take]
  simp only [List.length_take, List.length_append]
  rw [List.take_of_length_le (l := vs) (by omega)]
  congr 2
  · congr 1; omega
  · congr 1; omega
theorem run_store_at {w : World} {b i : Nat} {blk : Blk} {v : Value} {n : Nat} {agg : Bool} (ht : VarT P t agg n) (hn : v.cells.size = n) (hw : SatH W H w) (hb : At W H b blk) (hl : i + n ≤ blk.pre.length) (h1 : ∀ u ∈ v.cells.toList, u.oneCell' = true) :
    ∃ w', (storeVar t ⟨b, i, none⟩ v).run P w = .ok () w' ∧ SatH W (H.put b ⟨blk.elem, splice blk.pre i v.cells.toList, blk.cap⟩) w' := by
  obtain ⟨hbw, cur, hc, hcl, hct⟩ := hw.own _ _ hb.m
  obtain ⟨_, it, hi, hs⟩ := ht
  have hpl : blk.pre.length ≤ cur.size := by
    have := congrArg List.length hct
    simp at this; omega
  have hvl : v.cells.toList.length = n := by simpa using hn
  have hst := run_storeCells_at P b i blk.elem v.cells.toList 0 cur w hc (by simp; omega) h1
  refine ⟨w.setRow b (cur.toList.take (i + 0) ++ v.cells.toList ++ cur.toList.drop (i + 0 + v.cells.toList.length)).toArray, by simp only [storeVar, Sem.run_bind, sizeOf, typeInfo, run_program, Result.andThen_ok, hi, Sem.run_pure, hs]; simp only [hn, ne_eq, not_true_eq_false, if_false]; exact hst, ?_⟩
  refine hw.set (w' := w.setRow b _) hb.m ⟨hw.below.os, hw.below.tape, hw.below.output, by rw [size_setRow]; exact hw.below.size, fun k hk => by rw [setRow_other _ _ _ _ (by omega)]; exact hw.below.block k hk⟩ (size_setRow _ _ _) (fun k hk => setRow_other _ _ _ _ hk) (setRow_heap _ _ _ _ _ _ hc) ?_ ?_
  · simp only [List.size_toArray, List.length_append, List.length_take, List.length_drop, Array.length_toList]
    have : v.cells.size = n := hn
    omega
  · simp only [Nat.add_zero]
    rw [splice_length _ _ _ (by omega)]
    show (splice cur.toList i v.cells.toList).take blk.pre.length = _
    rw [splice_take _ _ _ _ (by omega) (by simpa using hpl), hct]
theorem WV.st {b i : Nat} {blk : Blk} {v : Value} {agg : Bool} {n : Nat} {dst : Option Nat} (hx : evl E x = some (.pointer (some ⟨b, i, none⟩))) (hy : evl E y = some v) (ht : VarT P t agg n) (hn : v.cells.size = n)
    (hb : At W H b blk) (hl : i + n ≤ blk.pre.length) (h1 : ∀ u ∈ v.cells.toList, u.oneCell' = true) :
    WV P W N E H ⟨dst, .store t x y, ty, pos, af, gd⟩ (fun _ H' => But (fun k => k = b) H H' ∧ At W H' b ⟨blk.elem, splice blk.pre i v.cells.toList, blk.cap⟩) := fun a w ha hw => by
  obtain ⟨w', g1, g2⟩ := run_store_at ht hn hw hb hl h1
  have : (execOp a.eval ⟨dst, .store t x y, ty, pos, af, gd⟩).run P w = .ok .skip w' := by simp [execOp, ha.ev hx, ha.ev hy, Instr.storeAt, Instr.sureAddr, g1]
  rw [this]
  exact ⟨_, g2, H.put_but _ _, H.put_self _ _, hb.w⟩
/-! ### 3. New blocks -/
theorem WV.new {cs : List Value} {T : TypeId} {mk : Nat → Value}
    (hv : ∀ a w, SatE N E a → SatH W H w → (execOp a.eval ⟨some d, op, ty, pos, af, gd⟩).run P w = .ok (.value (mk w.heap.size)) (w.alloc (.cells cs.toArray T))) :
    WV P W N E H ⟨some d, op, ty, pos, af, gd⟩ (fun v H' => ∃ b, v = mk b ∧ Ext H H' ∧ H.bd ≤ b ∧ At W H' b ⟨T, cs, cs.length⟩) :=
  WV.of (fun a w ha hw => ⟨_, _, _, hv a w ha hw, hw.alloc cs T, _, rfl, H.put_ext _ hw.bd, hw.bd, H.put_self _ _, hw.below.size⟩)
theorem WV.mono {o : Oper} {Po Po' : Value → Hp → Prop} (h : WV P W N E H o Po) (k : ∀ v H', Po v H' → Po' v H') : WV P W N E H o Po' := fun a w ha hw => by
  have hm := h a w ha hw
  revert hm
  cases (execOp a.eval o).run P w with
  | halt x w' => exact fun hm => hm.elim
  | ok n w' =>
    cases n with
    | value v => exact fun ⟨H', h1, h2⟩ => ⟨H', h1, k _ _ h2⟩
    | skip => exact fun ⟨H', h1, h2⟩ => ⟨H', h1, k _ _ h2⟩
    | enter f args => exact fun hm => Calls.mono hm fun e w'' ⟨v, H', h0, h1, h2⟩ => ⟨v, H', h0, h1, k _ _ h2⟩
    | _ => exact fun hm => hm.elim
theorem WV.al {z : Value} {cs : List Value} {n : Nat} (hz : ZeroT P t z n) (hc : z.cells.toList = cs) :
    WV P W N E H ⟨some d, .alloc t, ty, pos, af, gd⟩ (fun v H' => ∃ b, v = .pointer (some ⟨b, 0, none⟩) ∧ Ext H H' ∧ H.bd ≤ b ∧ At W H' b ⟨t, cs, cs.length⟩) :=
  WV.new (mk := fun b => .pointer (some ⟨b, 0, none⟩)) (fun a w ha hw => by
    obtain ⟨⟨i, hi, hz, hs⟩, _⟩ := hz
    simp [execOp, Instr.alloc, zeroValue, typeInfo, hi, hz, newVar, newRow, ← hc])
theorem WV.bx {v : Value} {cs : List Value} (hx : evl E x = some v) (hc : v.cells.toList = cs) :
    WV P W N E H ⟨some d, .box t x, ty, pos, af, gd⟩ (fun v H' => ∃ b, v = .pointer (some ⟨b, 0, none⟩) ∧ Ext H H' ∧ H.bd ≤ b ∧ At W H' b ⟨t, cs, cs.length⟩) :=
  WV.new (mk := fun b => .pointer (some ⟨b, 0, none⟩)) (fun a w ha hw => by simp [execOp, Instr.box, ha.ev hx, newVar, newRow, ← hc])
/-- A slice literal. -/
def evls (E : List (Nat × Value)) : List (Nat × Operand) → Option (List (Nat × Value))
  | [] => some []
  | (i, x) :: r => match evl E x, evls E r with
    | some v, some vs => some ((i, v) :: vs)
    | _, _ => none
theorem evls_ev {a : Act} (ha : SatE N E a) : ∀ (ps : List (Nat × Operand)) (vs : List (Nat × Value)), evls E ps = some vs → ps.map (fun p => (p.1, a.eval p.2)) = vs
  | [], vs, h => by cases h; rfl
  | (i, x) :: r, vs, h => by
    simp only [evls] at h
    split at h
    · rename_i v us h1 h2
      cases h
      simp [ha.ev h1, evls_ev ha r us h2]
    · cases h
theorem WV.bs {e : TypeId} {z : Value} {sz bytes len : Nat} {parts : List (Nat × Operand)} {vs : List (Nat × Value)} {cs : List Value} (ht : SlT P t e z sz bytes)
    (hv : evls E parts = some vs) (hlen : Nat.ble (len * sz) 16777216 = true)
    (hf : Instr.fill (fun i => some (i * sz, sz)) ((Array.range (len * sz)).map (z.cells[· % z.cells.size]!)) vs = some cs.toArray) (h1 : ∀ u ∈ cs, u.oneCell' = true) (hcl : cs.length = len * sz) :
    WV P W N E H ⟨some d, .buildSlice t len parts.toArray, ty, pos, af, gd⟩ (fun v H' => Ext H H' ∧ OwnV W H' (fun b => H.bd ≤ b) e sz v len cs) :=
  (WV.new (T := e) (cs := cs) (mk := fun b => .slice (some ⟨b, 0, none⟩) len len) (fun a w ha hw => by
    obtain ⟨hu, ⟨i, hi, hz, hs, hb⟩, hzc, hp⟩ := ht
    have hl := Nat.le_of_ble_eq_true hlen
    have hpl : (parts.toArray.map fun (x : Nat × Operand) => match x with | (i, x) => (i, a.eval x)) = vs.toArray := by
      rw [List.map_toArray]
      exact congrArg _ (evls_ev ha parts vs hv)
    simp only [execOp]
    rw [hpl]
    by_cases hn : len * i.size = 0
    · have hn' := hn
      rw [hs] at hn'
      have hf' := hf
      rw [hn'] at hf'
      simp only [Array.range_zero', Array.map_empty] at hf'
      subst hs
      simp [Instr.buildSlice, run_underlying hu, sizeOf, typeInfo, hi, hn, hf', newRow, show Array.range 0 = #[] from rfl]
    · have hsm : ¬ len * i.size > 2 ^ 24 := by rw [hs]; omega
      have := run_buildSlice (P := P) w t e len (vs.toArray) cs.toArray i z hu hi hz hsm hn (by rw [hs]; simpa using hf)
      simp [this])).mono (fun v H' ⟨b, hv, h2, h3, h4⟩ => by
    subst hv
    have hm : len ≤ maxLen := by
      have := Nat.le_of_ble_eq_true hlen
      have := Nat.le_mul_of_pos_right len ht.p
      simp only [maxLen]; omega
    have ho : OwnV W H' (fun b => H.bd ≤ b) e sz (.slice (some ⟨b, 0, none⟩) len len) len cs := ⟨hcl, h1, .inr ⟨b, len, rfl, h3, by rw [← hcl]; exact h4, Nat.le_refl _, hm⟩⟩
    exact ⟨h2, ho⟩)
/-- make([]T, n). -/
theorem WV.mk {e : TypeId} {z : Value} {sz bytes : Nat} {k k' : IntKind} {q : Int} (ht : SlT P t e z sz bytes) (hx : evl E x = some (.int k q)) (hy : evl E y = some (.int k' q))
    (h0 : 0 ≤ q) (hb : bytes * q ≤ 140737488355328) (hm : q ≤ 9223372036854775807) (hz1 : ∀ u ∈ (madeCells z.cells (q.toNat * sz)).toList, u.oneCell' = true) :
    WV P W N E H ⟨some d, .makeSlice t x y, ty, pos, af, gd⟩ (fun v H' => Ext H H' ∧ OwnV W H' (fun b => H.bd ≤ b) e sz v q.toNat (madeCells z.cells (q.toNat * sz)).toList) :=
  (WV.new (T := e) (cs := (madeCells z.cells (q.toNat * sz)).toList) (mk := fun b => .slice (some ⟨b, 0, none⟩) q.toNat q.toNat) (fun a w ha hw => by
    obtain ⟨hu, ⟨i, hi, hz, hs, hby⟩, hzc, hp⟩ := ht
    have := run_make (P := P) w t e i z hu hi hz k k' q q h0 (Int.le_refl _) (by rw [hby]; omega) (by omega)
    simp [execOp, ha.ev hx, ha.ev hy, this, hs])).mono (fun v H' ⟨b, hv, h2, h3, h4⟩ => by
    subst hv
    have hl : (madeCells z.cells (q.toNat * sz)).toList.length = q.toNat * sz := by simp [size_madeCells]
    exact ⟨h2, hl, hz1, .inr ⟨b, q.toNat, rfl, h3, by rw [hl] at h4; exact h4, Nat.le_refl _, by simp only [maxLen]; omega⟩⟩)
/-! ### 4. Addresses and cuts -/
theorem HV.ix {e : TypeId} {z : Value} {sz bytes n c : Nat} {ad : Addr} {k : IntKind} {q : Int} (ht : SlT P t e z sz bytes) (h0 : 0 ≤ q) (h1 : q < n)
    (hx : evl E x = some (.slice (some ad) n c)) (hy : evl E y = some (.int k q)) : HV P W N E H ⟨some d, .indexAddr t x y, ty, pos, af, gd⟩ (.pointer (some (ad.add (q.toNat * sz)))) := fun a w ha hw => by
  obtain ⟨hu, ⟨i, hi, hz, hs, hby⟩, hzc, hp⟩ := ht
  simp [execOp, ha.ev hx, ha.ev hy, Instr.indexAt, run_underlying hu, asIntOf, sizeOf, typeInfo, hi, hs, h0, h1]
theorem HV.ixs {s : ByteArray} {k : IntKind} {q : Int} (ht : P.underlying t = some .string) (hx : evl E x = some (.string s)) (hy : evl E y = some (.int k q)) (h0 : 0 ≤ q) (h1 : q < s.size) : HV P W N E H ⟨some d, .index t x y, ty, pos, af, gd⟩ (.int .u8 ((s.data.getD q.toNat 0).toNat : Nat)) :=
  (fun a w ha hw => by
    have hq : q.toNat < s.size := by omega
    have hq' : q.toNat < s.data.size := hq
    have he : s[q.toNat]? = some (s.data.getD q.toNat 0) := by
      rw [getElem?_pos s q.toNat hq]
      have : s.data.getD q.toNat 0 = s.data[q.toNat] := by simp [Array.getD, hq', hq]
      rw [this]; rfl
    simp [execOp, ha.ev hx, ha.ev hy, Instr.index, asIntOf, run_underlying ht, h0, he])
theorem HV.fa {f off n : Nat} {p : Addr} (ht : FldT P t f off n) (hx : evl E x = some (.pointer (some p))) : HV P W N E H ⟨some d, .fieldAddr t x f, ty, pos, af, gd⟩ (.pointer (some (p.add off))) :=
  (fun a w ha hw => by
    obtain ⟨⟨fs, fd, hu, hf, ho, i, hi, hs⟩, hp⟩ := ht
    have hn : ¬ n = 0 := by omega
    simp [execOp, ha.ev hx, Instr.fieldAt, run_underlying hu, hf, Instr.sureAddr, fieldPlace, sizeOf, typeInfo, hi, hs, hn, ho])
/-- xs[lo:hi], xs[lo:], xs[:hi], xs[:]. -/
theorem HV.cutLH {e : TypeId} {z : Value} {sz bytes n c : Nat} {A : Option Addr} {k k' : IntKind} {lo hi : Int} {l h_ : Operand} (ht : SlT P t e z sz bytes) (hx : evl E x = some (.slice A n c)) (hl : evl E l = some (.int k lo)) (hh : evl E h_ = some (.int k' hi)) (h0 : 0 ≤ lo) (h1 : lo ≤ hi) (h2 : hi ≤ c) : HV P W N E H ⟨some d, .slice t x (some l) (some h_) none, ty, pos, af, gd⟩ (sliced A lo.toNat hi.toNat c sz) :=
  (fun a w ha hw => by
    obtain ⟨hu, ⟨i, hi', hz, hs, hby⟩, hzc, hp⟩ := ht
    have hpe : P.elem t = e := by simp [Program.elem, hu]
    have hu' : P.underlying t = some (.slice (P.elem t)) := by rw [hpe]; exact hu
    have := run_slice_lh (P := P) w t A n c hu' k k' lo hi h0 h1 h2
    simp [execOp, ha.ev hx, ha.ev hl, ha.ev hh, run_sliceAt_slice (P := P) w t _ _ _ _ hu', this, hpe, sizeOf, typeInfo, hi', hs])
theorem HV.cutL {e : TypeId} {z : Value} {sz bytes n c : Nat} {A : Option Addr} {k : IntKind} {lo : Int} {l : Operand} (ht : SlT P t e z sz bytes) (hx : evl E x = some (.slice A n c)) (hl : evl E l = some (.int k lo)) (h0 : 0 ≤ lo) (h1 : lo ≤ n) : HV P W N E H ⟨some d, .slice t x (some l) none none, ty, pos, af, gd⟩ (sliced A lo.toNat n c sz) :=
  (fun a w ha hw => by
    obtain ⟨hu, ⟨i, hi', hz, hs, hby⟩, hzc, hp⟩ := ht
    have hpe : P.elem t = e := by simp [Program.elem, hu]
    have hu' : P.underlying t = some (.slice (P.elem t)) := by rw [hpe]; exact hu
    have := run_slice_l (P := P) w t A n c hu' k lo h0 h1
    simp [execOp, ha.ev hx, ha.ev hl, run_sliceAt_slice (P := P) w t _ _ _ _ hu', this, hpe, sizeOf, typeInfo, hi', hs])
theorem HV.cutH {e : TypeId} {z : Value} {sz bytes n c : Nat} {A : Option Addr} {k' : IntKind} {hi : Int} {h_ : Operand} (ht : SlT P t e z sz bytes) (hx : evl E x = some (.slice A n c)) (hh : evl E h_ = some (.int k' hi)) (h0 : 0 ≤ hi) (h2 : hi ≤ c) : HV P W N E H ⟨some d, .slice t x none (some h_) none, ty, pos, af, gd⟩ (sliced A 0 hi.toNat c sz) :=
  (fun a w ha hw => by
    obtain ⟨hu, ⟨i, hi', hz, hs, hby⟩, hzc, hp⟩ := ht
    have hpe : P.elem t = e := by simp [Program.elem, hu]
    have hu' : P.underlying t = some (.slice (P.elem t)) := by rw [hpe]; exact hu
    have := run_slice_h (P := P) w t A n c hu' k' hi h0 h2
    simp [execOp, ha.ev hx, ha.ev hh, run_sliceAt_slice (P := P) w t _ _ _ _ hu', this, hpe, sizeOf, typeInfo, hi', hs])
/-! ### 5. append -/
theorem WV.app {ok okx : Nat → Prop} {e : TypeId} {z : Value} {sz bytes n m : Nat} {v u : Value} {xs news : List Value} (ht : SlT P t e z sz bytes)
    (hx : evl E x = some v) (hy : evl E y = some u) (hv : OwnV W H ok e sz v n xs) (hu : RdV W H okx sz u m news) (hb : (n + m) * bytes ≤ 140737488355328) (hm : n + m ≤ 9223372036854775807) :
    WV P W N E H ⟨some d, .call { callee := .builtin .append, args := #[x, y], argTypes := #[t, t] }, ty, pos, af, gd⟩ (fun v' H' => But ok H H' ∧ OwnV W H' (fun b => ok b ∨ H.bd ≤ b) e sz v' (n + m) (xs ++ news)) :=
  WV.of  (fun a w ha hw => by
    obtain ⟨hu', ⟨i, hi, hz, hs, hby⟩, hzc, hp⟩ := ht
    have hown := hv.owns hw
    obtain ⟨hl, h1, A, c, rfl, hmc, hcm, hA, hr⟩ := hu
    have hok : ∀ b, some b = v.ownBlock → ok b ∧ W.heap.size ≤ b := fun b hb => by
      rcases hv.at_ with ⟨rfl, _⟩ | ⟨g, c, rfl, hg, hat, _⟩
      · simp [Value.ownBlock] at hb
      · simp only [Value.ownBlock, Option.some.injEq] at hb
        subst hb
        exact ⟨hg, hat.w⟩
    have hall : ∀ u ∈ xs ++ news, u.oneCell' = true := fun u hu => by
      rcases List.mem_append.1 hu with h | h
      · exact hv.one u h
      · exact h1 u h
    cases A with
    | none =>
      obtain rfl : c = 0 := hA rfl
      obtain rfl : m = 0 := by omega
      have hn : news = [] := List.eq_nil_of_length_eq_zero (by simpa using hl)
      subst hn
      have hrun := run_append_owned_none (P := P) w W.heap.size t ty e i sz hu' hi v n xs hown
      refine ⟨v, w, H, by simp [execOp, resolve, invoke, builtin, ha.ev hx, ha.ev hy, hrun], hw, But.refl _ _, ?_⟩
      simpa using hv.ok (fun b hb _ => .inl hb)
    | some ad =>
      have hcell : ∀ j u, news[j]? = some u → w.cell? (ad.add j) = some u := fun j u hju => by
        have hm0 : 0 < m := by
          rcases Nat.eq_zero_or_pos m with h0 | h0
          · subst h0
            have hn : news = [] := List.eq_nil_of_length_eq_zero (by simpa using hl)
            subst hn
            cases hju
          · exact h0
        exact hw.cell (hr ad rfl hm0 j u hju).1
      obtain ⟨v', w', hrun, ho, hgr, _, hat⟩ := run_append_own_at (P := P) w W.heap.size t ty e i z sz bytes hu' hi hz hs hby hzc hp v n xs hown ad m c news hl hcell h1 (by simp only [maxLen]; omega) hb hw.below.size
      obtain ⟨H', g1, g2, g3⟩ := hw.grown hgr (fun k hk => (hok k hk.symm).2) hall ho hat
      refine ⟨v', w', H', by simp [execOp, resolve, invoke, builtin, ha.ev hx, ha.ev hy, hrun], g1, g2.mono (fun b hb => (hok b hb).1), g3.ok (fun b hb _ => ?_)⟩
      rcases hb with hb | hb
      · exact .inl (hok b hb).1
      · exact .inr hb)
/-! ### 6. Calls -/
def evla (E : List (Nat × Value)) : List Operand → Option (List Value)
  | [] => some []
  | x :: r => match evl E x, evla E r with
    | some v, some vs => some (v :: vs)
    | _, _ => none
theorem evla_ev {a : Act} (ha : SatE N E a) : ∀ (ps : List Operand) (vs : List Value), evla E ps = some vs → ps.map a.eval = vs
  | [], vs, h => by cases h; rfl
  | x :: r, vs, h => by
    simp only [evla] at h
    split at h
    · rename_i v us h1 h2
      cases h
      simp [ha.ev h1, evla_ev ha r us h2]
    · cases h
theorem WV.enter {R : Value → Hp → Prop} {f : FuncId} {args : List Value} {o : Oper}
    (hv : ∀ a w, SatE N E a → SatH W H w → (execOp a.eval o).run P w = .ok (.enter f args.toArray) w) (hc : ACalls P W f args.toArray H R) : WV P W N E H o R := fun a w ha hw => by
  rw [hv a w ha hw]
  exact hc w hw
theorem FnT.of {fn : Func} {f : FuncId} (hf : P.funcs[f]? = some fn) (h1 : (fn.name == "runtime.NumGoroutine") = false) (h2 : fn.body.isNone = false) : FnT P f :=
  ⟨fun args w => by simp only [callFunc, Sem.run_bind, run_program, Result.andThen_ok, hf]; simp [h1, h2]⟩
theorem WV.call {R : Value → Hp → Prop} {f : FuncId} {args : List Operand} {ts : Array TypeId} {vs : List Value} {dst : Option Nat} (hf : FnT P f)
    (ha : evla E args = some vs) (hc : ACalls P W f vs.toArray H R) : WV P W N E H ⟨dst, .call { callee := .value (.func f), args := args.toArray, argTypes := ts }, ty, pos, af, gd⟩ R :=
  WV.enter (args := vs) (fun a w h1 h2 => by
    have := evla_ev h1 args vs ha
    simp [execOp, resolve, Deferred.ofValue, Act.eval, invoke, hf.call, this]) hc
/-- A function value. -/
theorem WV.callv {R : Value → Hp → Prop} {f : FuncId} {g : Operand} {first cap : List Value} {args : List Operand} {ts : Array TypeId} {vs : List Value} {dst : Option Nat} (hf : FnT P f)
    (hgv : evl E g = some (.func (.func f) first.toArray cap.toArray)) (ha : evla E args = some vs) (hc : ACalls P W f (first ++ vs ++ cap).toArray H R) :
    WV P W N E H ⟨dst, .call { callee := .value g, args := args.toArray, argTypes := ts }, ty, pos, af, gd⟩ R :=
  WV.enter (args := first ++ vs ++ cap) (fun a w h1 h2 => by
    have := evla_ev h1 args vs ha
    simp [execOp, resolve, Deferred.ofValue, h1.ev hgv, invoke, hf.call, this]) hc
theorem HV.fn {fn : Fn} {first cap : List Operand} {vs us : List Value} (h1 : evla E first = some vs) (h2 : evla E cap = some us) : HV P W N E H ⟨some d, .makeFunc fn first.toArray cap.toArray, ty, pos, af, gd⟩ (.func fn vs.toArray us.toArray) :=
  (fun a w ha hw => by
    have g1 := evla_ev ha first vs h1
    have g2 := evla_ev ha cap us h2
    simp [execOp, Instr.makeFunc, g1, g2])
/-- A struct literal. -/
theorem HV.bd {parts : List (Nat × Operand)} {vs : List (Nat × Value)} {cs : List Value} (hv : evls E parts = some vs) (hb : P.built t vs = some cs.toArray) : HV P W N E H ⟨some d, .build t parts.toArray, ty, pos, af, gd⟩ (.agg cs.toArray) :=
  (fun a w ha hw => by
    have hpl : (parts.toArray.map fun (x : Nat × Operand) => match x with | (i, x) => (i, a.eval x)) = vs.toArray := by
      rw [List.map_toArray]
      exact congrArg _ (evls_ev ha parts vs hv)
    simp only [execOp]
    rw [hpl]
    have := run_build (P := P) w t vs.toArray cs.toArray (by simpa using hb)
    simp [this])
/-- A field of a struct by value: one cell, or several. -/
theorem HV.fd {f off : Nat} {cs : List Value} {v : Value} {fs : Array Field} {fdl : Field} {n : Nat} (hx : evl E x = some (.agg cs.toArray)) (hu : P.underlying t = some (.struct fs)) (hf : fs[f]? = some fdl) (ho : fdl.offset = off) (ht : VarT P fdl.type false n) (hv : cs[off]? = some v) : HV P W N E H ⟨some d, .field t x f, ty, pos, af, gd⟩ (v) :=
  (fun a w ha hw => by
    obtain ⟨⟨ds, hu', hd'⟩, _⟩ := ht
    have h1 : (isAgg fdl.type).run P w = .ok false w := run_plain hu' hd' w
    simp [execOp, ha.ev hx, Instr.field, run_underlying hu, hf, part, asAgg, h1, ho, hv])
end
end Go.Proofs.YteajnanbfkcdcaaDoor.VC
