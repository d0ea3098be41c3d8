/- Kinds: how values lie in memory: whole numbers, rows that are read, rows of the call's own, rows whose rows are the call's own, too. -/
import Derived.Test.YteajnanbfkcdcaaDoorVC
set_option linter.unusedVariables false
set_option linter.unusedSimpArgs false
namespace Go.Proofs.YteajnanbfkcdcaaDoor.VC
open Go Go.RowKit
variable {P : Program} {W : World} {N : Nat} {Q : Exit → List (Nat × Value) → Hp → Prop} {E : List (Nat × Value)} {H H' : Hp} {ops : Array Oper} {rest : List Oper} {o : Oper}
structure Kd (α : Type) where
  sz : Nat
  rd : World → Hp → (Nat → Prop) → α → List Value → Prop
  len : ∀ {W H ok x cs}, rd W H ok x cs → cs.length = sz
  one : ∀ {W H ok x cs}, rd W H ok x cs → ∀ u ∈ cs, u.oneCell' = true
  but : ∀ {W H H' ok out x cs}, But out H H' → (∀ b, ok b → b < H.bd → ¬ out b) → (∀ b, out b → W.heap.size ≤ b) → rd W H ok x cs → rd W H' ok x cs
  okk : ∀ {W H ok ok' x cs}, (∀ b, ok b → b < H.bd → ok' b) → rd W H ok x cs → rd W H ok' x cs
def Kd.sc {α : Type} (f : α → Value) (h : ∀ x, (f x).oneCell' = true) : Kd α where
  sz := 1
  rd := fun _ _ _ x cs => cs = [f x]
  len := fun h => by rw [h]; rfl
  one := fun h u hu => by rw [h] at hu; rw [List.mem_singleton.1 hu]; exact (by assumption : ∀ x, (f x).oneCell' = true) _
  but := fun _ _ _ h => h
  okk := fun _ h => h
def kI : Kd Int := Kd.sc (Value.int .i64) (fun _ => rfl)
def kU : Kd Int := Kd.sc (Value.int .u64) (fun _ => rfl)
def kU8 : Kd Int := Kd.sc (Value.int .u8) (fun _ => rfl)
def kB : Kd Bool := Kd.sc Value.bool (fun _ => rfl)
def kS : Kd ByteArray := Kd.sc Value.string (fun _ => rfl)
/-- The elements' cells. -/
def Segs {α : Type} (R : Nat → α → List Value → Prop) (l : List α) (css : List (List Value)) : Prop := css.length = l.length ∧ ∀ i x cs, l[i]? = some x → css[i]? = some cs → R i x cs
/-- A row that is read. -/
def RdK {α : Type} (K : Kd α) (W : World) (H : Hp) (ok : Nat → Prop) (v : Value) (l : List α) : Prop :=
  ∃ css, Segs (fun _ x cs => K.rd W H ok x cs) l css ∧ RdV W H ok K.sz v l.length css.flatten
/-- A row of the call's own; its elements' rows are others. -/
def OwnK {α : Type} (K : Kd α) (e : Nat) (W : World) (H : Hp) (ok : Nat → Prop) (v : Value) (l : List α) : Prop :=
  ∃ css, Segs (fun _ x cs => K.rd W H (fun b => ok b ∧ some b ≠ v.ownBlock) x cs) l css ∧ OwnV W H (fun b => ok b) e K.sz v l.length css.flatten
/-- A row of the call's own; each element's rows are its own, too. -/
def OwnD {α : Type} (K : Kd α) (e : Nat) (W : World) (H : Hp) (ok : Nat → Prop) (v : Value) (l : List α) : Prop :=
  ∃ (lab : Nat → Nat) (css : List (List Value)), Segs (fun i x cs => K.rd W H (fun b => ok b ∧ some b ≠ v.ownBlock ∧ lab b = i) x cs) l css ∧ OwnV W H (fun b => ok b) e K.sz v l.length css.flatten
section
variable {α : Type} {K : Kd α} {e : Nat} {ok ok' out : Nat → Prop} {v : Value} {l : List α}
theorem Segs.imp {R R' : Nat → α → List Value → Prop} {css : List (List Value)} (h : Segs R l css) (k : ∀ i x cs, R i x cs → R' i x cs) : Segs R' l css := ⟨h.1, fun i x cs h1 h2 => k i x cs (h.2 i x cs h1 h2)⟩
theorem Segs.flat {R : Nat → α → List Value → Prop} {css : List (List Value)} (h : Segs R l css) {n : Nat} (hn : ∀ i x cs, R i x cs → cs.length = n) : (∀ cs ∈ css, cs.length = n) ∧ css.flatten.length = l.length * n := by
  have h1 : ∀ cs ∈ css, cs.length = n := fun cs hcs => by
    obtain ⟨i, hi, rfl⟩ := List.getElem_of_mem hcs
    have hl : i < l.length := by rw [← h.1]; exact hi
    exact hn i l[i] _ (h.2 i _ _ (List.getElem?_eq_getElem hl) (List.getElem?_eq_getElem hi))
  refine ⟨h1, ?_⟩
  rw [← h.1]
  clear h hn
  induction css with
  | nil => simp
  | cons c cs ih =>
    rw [List.flatten_cons, List.length_append, List.length_cons, ih (fun d hd => h1 d (List.mem_cons_of_mem _ hd)), h1 c List.mem_cons_self, Nat.add_mul]
    omega
theorem flat_get {css : List (List Value)} {n : Nat} (h : ∀ cs ∈ css, cs.length = n) {i j : Nat} {cs : List Value} {u : Value} (hi : css[i]? = some cs) (hj : cs[j]? = some u) : css.flatten[i * n + j]? = some u := by
  induction css generalizing i with
  | nil => cases hi
  | cons c css ih =>
    have hc := h c List.mem_cons_self
    have hjl := (List.getElem?_eq_some_iff.1 hj).1
    cases i with
    | zero =>
      simp only [List.getElem?_cons_zero, Option.some.injEq] at hi
      subst hi
      rw [List.flatten_cons, Nat.zero_mul, Nat.zero_add, List.getElem?_append_left hjl]
      exact hj
    | succ i =>
      rw [List.getElem?_cons_succ] at hi
      rw [List.flatten_cons, List.getElem?_append_right (by rw [hc, Nat.succ_mul]; omega)]
      have := ih (fun d hd => h d (List.mem_cons_of_mem _ hd)) hi
      rw [← this]
      congr 1
      rw [hc, Nat.succ_mul]; omega
theorem RdK.isSl (h : RdK K W H ok v l) : IsSl v l.length := h.choose_spec.2.isSl
theorem RdK.but (h : RdK K W H ok v l) (k : But out H H') (ho : ∀ b, ok b → b < H.bd → ¬ out b) (hW : ∀ b, out b → W.heap.size ≤ b) : RdK K W H' ok v l := by
  obtain ⟨css, h1, h2⟩ := h
  exact ⟨css, h1.imp (fun _ _ _ h => K.but k ho hW h), h2.but k ho hW⟩
theorem RdK.ext (h : RdK K W H ok v l) (k : Ext H H') : RdK K W H' ok v l := h.but k (fun _ _ _ f => f) (fun _ f => f.elim)
theorem RdK.okk (h : RdK K W H ok v l) (k : ∀ b, ok b → b < H.bd → ok' b) : RdK K W H ok' v l := by
  obtain ⟨css, h1, h2⟩ := h
  exact ⟨css, h1.imp (fun _ _ _ h => K.okk k h), h2.ok k⟩
theorem RdK.max (h : RdK K W H ok v l) : l.length ≤ 9223372036854775807 := by
  obtain ⟨css, h1, h2, h3, A, c, rfl, h4, h5, _⟩ := h
  simp only [maxLen] at h5
  omega
theorem OwnV.blk {sz m : Nat} {cells : List Value} (h : OwnV W H ok e sz v m cells) : ∀ b, some b = v.ownBlock → ok b ∧ b < H.bd ∧ W.heap.size ≤ b := fun b hb => by
  rcases h.at_ with ⟨rfl, _⟩ | ⟨g, c, rfl, h1, h2, _⟩
  · simp [Value.ownBlock] at hb
  · simp only [Value.ownBlock, Option.some.injEq] at hb
    subst hb
    exact ⟨h1, h2.lt, h2.w⟩
theorem OwnK.isSl (h : OwnK K e W H ok v l) : IsSl v l.length := h.choose_spec.2.isSl
theorem OwnK.rd (h : OwnK K e W H ok v l) : RdK K W H ok v l := by
  obtain ⟨css, h1, h2⟩ := h
  exact ⟨css, h1.imp (fun _ _ _ h => K.okk (fun b hb _ => hb.1) h), h2.rd⟩
theorem OwnK.but (h : OwnK K e W H ok v l) (k : But out H H') (ho : ∀ b, ok b → b < H.bd → ¬ out b) (hW : ∀ b, out b → W.heap.size ≤ b) : OwnK K e W H' ok v l := by
  obtain ⟨css, h1, h2⟩ := h
  exact ⟨css, h1.imp (fun _ _ _ h => K.but k (fun b hb => ho b hb.1) hW h), h2.but k ho⟩
theorem OwnK.ext (h : OwnK K e W H ok v l) (k : Ext H H') : OwnK K e W H' ok v l := h.but k (fun _ _ _ f => f) (fun _ f => f.elim)
theorem OwnK.okk (h : OwnK K e W H ok v l) (k : ∀ b, ok b → b < H.bd → ok' b) : OwnK K e W H ok' v l := by
  obtain ⟨css, h1, h2⟩ := h
  exact ⟨css, h1.imp (fun _ _ _ h => K.okk (fun b hb hlt => ⟨k b hb.1 hlt, hb.2⟩) h), h2.ok k⟩
theorem OwnK.nil (ok : Nat → Prop) : OwnK K e W H ok (.slice none 0 0) ([] : List α) := ⟨[], ⟨rfl, fun i x cs h => by cases h⟩, OwnV.nil _ _ _⟩
theorem OwnD.isSl (h : OwnD K e W H ok v l) : IsSl v l.length := by obtain ⟨_, _, _, h2⟩ := h; exact h2.isSl
theorem OwnD.own (h : OwnD K e W H ok v l) : OwnK K e W H ok v l := by
  obtain ⟨lab, css, h1, h2⟩ := h
  exact ⟨css, h1.imp (fun _ _ _ h => K.okk (fun b hb _ => ⟨hb.1, hb.2.1⟩) h), h2⟩
theorem OwnD.rd (h : OwnD K e W H ok v l) : RdK K W H ok v l := h.own.rd
theorem OwnD.but (h : OwnD K e W H ok v l) (k : But out H H') (ho : ∀ b, ok b → b < H.bd → ¬ out b) (hW : ∀ b, out b → W.heap.size ≤ b) : OwnD K e W H' ok v l := by
  obtain ⟨lab, css, h1, h2⟩ := h
  exact ⟨lab, css, h1.imp (fun _ _ _ h => K.but k (fun b hb => ho b hb.1) hW h), h2.but k ho⟩
theorem OwnD.ext (h : OwnD K e W H ok v l) (k : Ext H H') : OwnD K e W H' ok v l := h.but k (fun _ _ _ f => f) (fun _ f => f.elim)
theorem OwnD.okk (h : OwnD K e W H ok v l) (k : ∀ b, ok b → b < H.bd → ok' b) : OwnD K e W H ok' v l := by
  obtain ⟨lab, css, h1, h2⟩ := h
  exact ⟨lab, css, h1.imp (fun _ _ _ h => K.okk (fun b hb hlt => ⟨k b hb.1 hlt, hb.2⟩) h), h2.ok k⟩
theorem OwnD.nil (ok : Nat → Prop) : OwnD K e W H ok (.slice none 0 0) ([] : List α) := ⟨fun _ => 0, [], ⟨rfl, fun i x cs h => by cases h⟩, OwnV.nil _ _ _⟩
theorem Ext.thru {B H H' : Hp} {out : Nat → Prop} (X : Ext B H) (k : But out H H') (ho : ∀ b, out b → B.bd ≤ b) : Ext B H' :=
  ⟨Nat.le_trans X.bd k.bd, fun b x hb _ => k.m b x (X.get hb) (fun o => by have := ho b o; have := B.lt b x hb; omega)⟩
theorem RdK.lo (h : RdK K W H ok v l) : RdK K W H (fun b => b < H.bd) v l := h.okk (fun _ _ h => h)
theorem OwnK.blk (h : OwnK K e W H ok v l) : ∀ b, some b = v.ownBlock → ok b ∧ b < H.bd ∧ W.heap.size ≤ b := fun b hb => h.choose_spec.2.blk b hb
theorem OwnK.ltb (h : OwnK K e W H ok v l) : ∀ b, some b = v.ownBlock → b < H.bd := fun b hb => (h.blk b hb).2.1
/-- Elements that lead nowhere. -/
def Flat (K : Kd α) : Prop := ∀ W H H' ok ok' x cs, K.rd W H ok x cs → K.rd W H' ok' x cs
theorem OwnK.narrow (hF : Flat K) (h : OwnK K e W H ok v l) (hb : ∀ b, some b = v.ownBlock → ok' b) : OwnK K e W H ok' v l := by
  obtain ⟨css, h1, h2⟩ := h
  refine ⟨css, h1.imp (fun _ _ _ h => hF _ _ _ _ _ _ _ h), h2.len, h2.one, ?_⟩
  rcases h2.at_ with h3 | ⟨g, c, rfl, h4, h5⟩
  · exact .inl h3
  · exact .inr ⟨g, c, rfl, hb g rfl, h5⟩
/-- Where an element lies. -/
def Cells (W : World) (H : Hp) (p : Addr) (cs : List Value) : Prop := ∀ j u, cs[j]? = some u → rdc W H (p.add j) = some u
theorem Cells.ext {p : Addr} {cs : List Value} (h : Cells W H p cs) (k : Ext H H') : Cells W H' p cs := fun j u hu => rdc_ext k (h j u hu)
theorem Cells.one {p : Addr} {u : Value} (h : Cells W H p [u]) : rdc W H p = some u := by
  have := h 0 u rfl
  simpa [Addr.add] using this
end
theorem kI_flat : Flat kI := fun _ _ _ _ _ _ _ h => h
theorem kU_flat : Flat kU := fun _ _ _ _ _ _ _ h => h
theorem kU8_flat : Flat kU8 := fun _ _ _ _ _ _ _ h => h
theorem kB_flat : Flat kB := fun _ _ _ _ _ _ _ h => h
theorem kS_flat : Flat kS := fun _ _ _ _ _ _ _ h => h
theorem sl_cells {v : Value} {n : Nat} (h : IsSl v n) : v.cells.toList = [v] := by
  obtain ⟨A, c, rfl⟩ := h; rfl
theorem sl_size {v : Value} {n : Nat} (h : IsSl v n) : v.cells.size = 1 := by
  obtain ⟨A, c, rfl⟩ := h; rfl
theorem sl_one {v : Value} {n : Nat} (h : IsSl v n) : ∀ u ∈ v.cells.toList, u.oneCell' = true := by
  obtain ⟨A, c, rfl⟩ := h
  intro u hu
  rw [List.mem_singleton.1 hu]; rfl
/-! ### Kinds of rows -/
def kR {α : Type} (K : Kd α) : Kd (List α) where
  sz := 1
  rd := fun W H ok l cs => ∃ v, cs = [v] ∧ RdK K W H ok v l
  len := fun ⟨v, h, _⟩ => by rw [h]; rfl
  one := fun ⟨v, h, k⟩ u hu => by
    rw [h] at hu
    obtain ⟨A, c, e⟩ := k.isSl
    rw [List.mem_singleton.1 hu, e]; rfl
  but := fun k ho hW ⟨v, h, r⟩ => ⟨v, h, r.but k ho hW⟩
  okk := fun k ⟨v, h, r⟩ => ⟨v, h, r.okk k⟩
def kO {α : Type} (e : Nat) (K : Kd α) : Kd (List α) where
  sz := 1
  rd := fun W H ok l cs => ∃ v, cs = [v] ∧ OwnK K e W H ok v l
  len := fun ⟨v, h, _⟩ => by rw [h]; rfl
  one := fun ⟨v, h, k⟩ u hu => by
    rw [h] at hu
    obtain ⟨A, c, e⟩ := k.isSl
    rw [List.mem_singleton.1 hu, e]; rfl
  but := fun k ho hW ⟨v, h, r⟩ => ⟨v, h, r.but k ho hW⟩
  okk := fun k ⟨v, h, r⟩ => ⟨v, h, r.okk k⟩
def kD {α : Type} (e : Nat) (K : Kd α) : Kd (List α) where
  sz := 1
  rd := fun W H ok l cs => ∃ v, cs = [v] ∧ OwnD K e W H ok v l
  len := fun ⟨v, h, _⟩ => by rw [h]; rfl
  one := fun ⟨v, h, k⟩ u hu => by
    rw [h] at hu
    obtain ⟨A, c, e⟩ := k.isSl
    rw [List.mem_singleton.1 hu, e]; rfl
  but := fun k ho hW ⟨v, h, r⟩ => ⟨v, h, r.but k ho hW⟩
  okk := fun k ⟨v, h, r⟩ => ⟨v, h, r.okk k⟩
/-- What is said in one kind can be said in the other. -/
def Le {α : Type} (K K' : Kd α) : Prop := K'.sz = K.sz ∧ ∀ W H ok x cs, K.rd W H ok x cs → K'.rd W H ok x cs
theorem Le.refl {α : Type} (K : Kd α) : Le K K := ⟨rfl, fun _ _ _ _ _ h => h⟩
theorem RdK.le {α : Type} {K K' : Kd α} {ok : Nat → Prop} {v : Value} {l : List α} (h : RdK K W H ok v l) (hl : Le K K') : RdK K' W H ok v l := by
  obtain ⟨css, h1, h2⟩ := h
  refine ⟨css, h1.imp (fun _ _ _ h => hl.2 _ _ _ _ _ h), ?_⟩
  rw [hl.1]; exact h2
theorem OwnK.le {α : Type} {K K' : Kd α} {e : Nat} {ok : Nat → Prop} {v : Value} {l : List α} (h : OwnK K e W H ok v l) (hl : Le K K') : OwnK K' e W H ok v l := by
  obtain ⟨css, h1, h2⟩ := h
  refine ⟨css, h1.imp (fun _ _ _ h => hl.2 _ _ _ _ _ h), ?_⟩
  rw [hl.1]; exact h2
theorem le_OR {α : Type} {K K' : Kd α} {e : Nat} (h : Le K K') : Le (kO e K) (kR K') := ⟨rfl, fun W H ok x cs ⟨v, h1, h2⟩ => ⟨v, h1, h2.rd.le h⟩⟩
theorem le_DR {α : Type} {K K' : Kd α} {e : Nat} (h : Le K K') : Le (kD e K) (kR K') := ⟨rfl, fun W H ok x cs ⟨v, h1, h2⟩ => ⟨v, h1, h2.rd.le h⟩⟩
theorem le_DO {α : Type} {K K' : Kd α} {e : Nat} (h : Le K K') : Le (kD e K) (kO e K') := ⟨rfl, fun W H ok x cs ⟨v, h1, h2⟩ => ⟨v, h1, h2.own.le h⟩⟩
theorem le_RR {α : Type} {K K' : Kd α} (h : Le K K') : Le (kR K) (kR K') := ⟨rfl, fun W H ok x cs ⟨v, h1, h2⟩ => ⟨v, h1, h2.le h⟩⟩
/-! ### The rules for rows -/
section
variable {d : Nat} {ty : TypeId} {pos : String} {af : Array Edge} {gd : Option (Nat × Bool)} {t : TypeId} {x y : Operand} {α : Type} {K : Kd α} {ok : Nat → Prop} {v : Value} {l : List α}
/-- The address of an element that is read. -/
theorem RdK.ix {e : TypeId} {z : Value} {bytes : Nat} {k : IntKind} {q : Int} (hr : RdK K W H ok v l) (ht : SlT P t e z K.sz bytes) (h0 : 0 ≤ q) (h1 : q < l.length) :
    ∃ p x cs, l[q.toNat]? = some x ∧ K.rd W H ok x cs ∧ Cells W H p cs ∧ ∀ {H2 N E d x y ty pos af gd}, evl E x = some v → evl E y = some (.int k q) → HV P W N E H2 ⟨some d, .indexAddr t x y, ty, pos, af, gd⟩ (.pointer (some p)) := by
  obtain ⟨css, hs, hv⟩ := hr
  obtain ⟨hl, ho, A, c, rfl, hc, hm, hA, hR⟩ := hv
  have hpos : 0 < l.length := by omega
  have hq : q.toNat < l.length := by omega
  have hq' : q.toNat < css.length := by rw [hs.1]; exact hq
  cases A with
  | none => have := hA rfl; omega
  | some ad =>
    have hK := hs.2 _ _ _ (List.getElem?_eq_getElem hq) (List.getElem?_eq_getElem hq')
    refine ⟨_, _, _, List.getElem?_eq_getElem hq, hK, fun j u hu => ?_, fun hx hy => HV.ix ht h0 h1 hx hy⟩
    rw [add_add]
    exact (hR ad rfl hpos _ _ (flat_get (hs.flat (fun _ _ _ h => K.len h)).1 (List.getElem?_eq_getElem hq') hu)).1
theorem flat_take {css : List (List Value)} {n : Nat} (h : ∀ cs ∈ css, cs.length = n) (k : Nat) : (css.take k).flatten = css.flatten.take (k * n) := by
  induction css generalizing k with
  | nil => simp
  | cons c css ih =>
    cases k with
    | zero => simp
    | succ k =>
      have hc := h c List.mem_cons_self
      rw [List.take_succ_cons, List.flatten_cons, List.flatten_cons, ih (fun d hd => h d (List.mem_cons_of_mem _ hd)), List.take_append, hc, List.take_of_length_le (l := c) (by rw [hc, Nat.succ_mul]; omega)]
      congr 2
      rw [Nat.succ_mul]; omega
theorem flat_drop {css : List (List Value)} {n : Nat} (h : ∀ cs ∈ css, cs.length = n) (k : Nat) : (css.drop k).flatten = css.flatten.drop (k * n) := by
  induction css generalizing k with
  | nil => simp
  | cons c css ih =>
    cases k with
    | zero => simp
    | succ k =>
      have hc := h c List.mem_cons_self
      rw [List.drop_succ_cons, List.flatten_cons, ih (fun d hd => h d (List.mem_cons_of_mem _ hd)), List.drop_append, hc, List.drop_of_length_le (l := c) (by rw [hc, Nat.succ_mul]; omega)]
      rw [List.nil_append]
      congr 1
      rw [Nat.succ_mul]; omega
theorem Segs.take {R : α → List Value → Prop} {css : List (List Value)} (h : Segs (fun _ => R) l css) (k : Nat) : Segs (fun _ => R) (l.take k) (css.take k) := by
  refine ⟨by rw [List.length_take, List.length_take, h.1], fun i x cs h1 h2 => ?_⟩
  rw [List.getElem?_take] at h1 h2
  split at h1
  · rename_i hk
    rw [if_pos hk] at h2
    exact h.2 i x cs h1 h2
  · cases h1
theorem Segs.drop {R : α → List Value → Prop} {css : List (List Value)} (h : Segs (fun _ => R) l css) (k : Nat) : Segs (fun _ => R) (l.drop k) (css.drop k) := by
  refine ⟨by rw [List.length_drop, List.length_drop, h.1], fun i x cs h1 h2 => ?_⟩
  rw [List.getElem?_drop] at h1 h2
  exact h.2 _ x cs h1 h2
/-- xs[:q]. -/
theorem RdK.cutH {e : TypeId} {z : Value} {bytes : Nat} {k : IntKind} {q : Int} (hr : RdK K W H ok v l) (ht : SlT P t e z K.sz bytes) (h0 : 0 ≤ q) (h1 : q ≤ l.length) :
    ∃ v', RdK K W H ok v' (l.take q.toNat) ∧ ∀ {H2 N E d x y ty pos af gd}, evl E x = some v → evl E y = some (.int k q) → HV P W N E H2 ⟨some d, .slice t x none (some y) none, ty, pos, af, gd⟩ v' := by
  obtain ⟨css, hs, hv⟩ := hr
  obtain ⟨hl, ho, A, c, rfl, hc, hm, hA, hR⟩ := hv
  refine ⟨sliced A 0 q.toNat c K.sz, ⟨css.take q.toNat, hs.take _, ?_, fun u hu => ho u ?_, A, c, ?_, ?_, hm, hA, fun ad had hpos j u hu => ?_⟩, fun hx hy => HV.cutH ht hx hy h0 (by omega)⟩
  · rw [flat_take (hs.flat (fun _ _ _ h => K.len h)).1, List.length_take, hl, List.length_take]
    have : min q.toNat l.length = q.toNat := by omega
    rw [this]
    exact Nat.min_eq_left (Nat.mul_le_mul_right _ (by omega))
  · rw [flat_take (hs.flat (fun _ _ _ h => K.len h)).1] at hu
    exact List.mem_of_mem_take hu
  · have h2 : min q.toNat l.length = q.toNat := by omega
    simp only [sliced, Nat.zero_mul, Nat.sub_zero, List.length_take, h2]
    congr 1
    split
    · rfl
    · cases A <;> simp [Addr.add]
  · rw [List.length_take]; omega
  · rw [flat_take (hs.flat (fun _ _ _ h => K.len h)).1, List.getElem?_take] at hu
    split at hu
    · rw [List.length_take] at hpos
      exact hR ad had (by omega) j u hu
    · cases hu
/-- xs[q:]. -/
theorem RdK.cutL {e : TypeId} {z : Value} {bytes : Nat} {k : IntKind} {q : Int} (hr : RdK K W H ok v l) (ht : SlT P t e z K.sz bytes) (h0 : 0 ≤ q) (h1 : q ≤ l.length) :
    ∃ v', RdK K W H ok v' (l.drop q.toNat) ∧ ∀ {H2 N E d x y ty pos af gd}, evl E x = some v → evl E y = some (.int k q) → HV P W N E H2 ⟨some d, .slice t x (some y) none none, ty, pos, af, gd⟩ v' := by
  obtain ⟨css, hs, hv⟩ := hr
  obtain ⟨hl, ho, A, c, rfl, hc, hm, hA, hR⟩ := hv
  have hf := (hs.flat (fun _ _ _ h => K.len h)).1
  refine ⟨sliced A q.toNat l.length c K.sz, ⟨css.drop q.toNat, hs.drop _, ?_, fun u hu => ho u ?_, if c = q.toNat then A else A.map (·.add (q.toNat * K.sz)), c - q.toNat, ?_, ?_, by omega, ?_, fun ad had hpos j u hu => ?_⟩, fun hx hy => HV.cutL ht hx hy h0 h1⟩
  · rw [flat_drop hf, List.length_drop, hl, List.length_drop, Nat.sub_mul]
  · rw [flat_drop hf] at hu
    exact List.mem_of_mem_drop hu
  · simp only [sliced, List.length_drop]
  · rw [List.length_drop]; omega
  · intro hn
    split at hn
    · omega
    · cases A with
      | none => have := hA rfl; omega
      | some ad => cases hn
  · rw [List.length_drop] at hpos
    rw [flat_drop hf, List.getElem?_drop] at hu
    rw [if_neg (by omega)] at had
    cases A with
    | none => cases had
    | some a0 =>
      cases had
      have := hR a0 rfl (by omega) _ u hu
      rw [add_add, block_add]
      exact this
/-- xs[a:b]. -/
theorem RdK.cutLH {e : TypeId} {z : Value} {bytes : Nat} {k k' : IntKind} {lo hi : Int} (hr : RdK K W H ok v l) (ht : SlT P t e z K.sz bytes) (h0 : 0 ≤ lo) (h1 : lo ≤ hi) (h2 : hi ≤ l.length) :
    ∃ v', RdK K W H ok v' ((l.take hi.toNat).drop lo.toNat) ∧ ∀ {H2 N E d x a b ty pos af gd}, evl E x = some v → evl E a = some (.int k lo) → evl E b = some (.int k' hi) → HV P W N E H2 ⟨some d, .slice t x (some a) (some b) none, ty, pos, af, gd⟩ v' := by
  obtain ⟨css, hs, hv⟩ := hr
  obtain ⟨hl, ho, A, c, rfl, hc, hm, hA, hR⟩ := hv
  have hs2 := (hs.take hi.toNat).drop lo.toNat
  have hf := (hs.flat (fun _ _ _ h => K.len h)).1
  have hft : ∀ cs ∈ css.take hi.toNat, cs.length = K.sz := fun cs h => hf cs (List.mem_of_mem_take h)
  have hlen : ((l.take hi.toNat).drop lo.toNat).length = hi.toNat - lo.toNat := by rw [List.length_drop, List.length_take]; omega
  refine ⟨sliced A lo.toNat hi.toNat c K.sz, ⟨(css.take hi.toNat).drop lo.toNat, hs2, (hs2.flat (fun _ _ _ h => K.len h)).2, fun u hu => ho u ?_, if c = lo.toNat then A else A.map (·.add (lo.toNat * K.sz)), c - lo.toNat, ?_, ?_, by omega, ?_, fun ad had hpos j u hu => ?_⟩, fun hx ha hb => HV.cutLH ht hx ha hb h0 h1 (by omega)⟩
  · rw [flat_drop hft, flat_take hf] at hu
    exact List.mem_of_mem_take (List.mem_of_mem_drop hu)
  · simp only [sliced, hlen]
  · rw [hlen]; omega
  · intro hn
    split at hn
    · omega
    · cases A with
      | none => have := hA rfl; omega
      | some ad => cases hn
  · rw [hlen] at hpos
    rw [flat_drop hft, flat_take hf, List.getElem?_drop, List.getElem?_take] at hu
    rw [if_neg (by omega)] at had
    cases A with
    | none => cases had
    | some a0 =>
      cases had
      split at hu
      · have := hR a0 rfl (by omega) _ u hu
        rw [add_add, block_add]
        exact this
      · cases hu
theorem segs_rep {α : Type} {R : α → List Value → Prop} {x0 : α} {c0 : List Value} (h : R x0 c0) (n : Nat) : Segs (fun _ => R) (List.replicate n x0) (List.replicate n c0) := by
  refine ⟨by simp, fun i x cs h1 h2 => ?_⟩
  rw [List.getElem?_replicate] at h1 h2
  split at h1
  · rename_i hn
    rw [if_pos hn] at h2
    cases h1; cases h2; exact h
  · cases h1
/-- make([]T, n), elements of one cell. -/
theorem WV.mkK {e : TypeId} {u : Value} {bytes : Nat} {k k' : IntKind} {q : Int} (x0 : α) (hK : ∀ W H ok, K.rd W H ok x0 [u]) (ht : SlT P t e u 1 bytes) (hu : u.cells = #[u]) (hx : evl E x = some (.int k q)) (hy : evl E y = some (.int k' q))
    (h0 : 0 ≤ q) (hb : bytes * q ≤ 140737488355328) (hm : q ≤ 9223372036854775807) :
    WV P W N E H ⟨some d, .makeSlice t x y, ty, pos, af, gd⟩ (fun v H' => Ext H H' ∧ OwnK K e W H' (fun b => H.bd ≤ b) v (List.replicate q.toNat x0)) := by
  have hs : K.sz = 1 := (K.len (hK W H (fun _ => True))).symm
  have hone : u.oneCell' = true := K.one (hK W H (fun _ => True)) u List.mem_cons_self
  have hc : (madeCells u.cells (q.toNat * 1)).toList = (List.replicate q.toNat [u]).flatten := by
    rw [hu, toList_madeCells_one, Nat.mul_one, List.flatten_replicate_singleton]
  refine (WV.mk ht hx hy h0 hb hm (fun w hw => ?_)).mono fun v H' ⟨h1, h2⟩ => ⟨h1, List.replicate q.toNat [u], segs_rep (hK _ _ _) _, ?_⟩
  · rw [hc, List.flatten_replicate_singleton] at hw
    rw [(List.mem_replicate.1 hw).2]
    exact hone
  · rw [hc] at h2
    rw [List.length_replicate, hs]
    exact h2
/-- The address of an element of the call's own. -/
theorem OwnK.ix {e e' : TypeId} {z : Value} {bytes : Nat} {k : IntKind} {q : Int} (h : OwnK K e W H ok v l) (ht : SlT P t e' z K.sz bytes) (h0 : 0 ≤ q) (h1 : q < l.length) :
    ∃ g x cs, l[q.toNat]? = some x ∧ K.rd W H ok x cs ∧ Cells W H ⟨g, q.toNat * K.sz, none⟩ cs ∧ some g = v.ownBlock ∧
      ∀ {H2 N E d x y ty pos af gd}, evl E x = some v → evl E y = some (.int k q) → HV P W N E H2 ⟨some d, .indexAddr t x y, ty, pos, af, gd⟩ (.pointer (some ⟨g, q.toNat * K.sz, none⟩)) := by
  obtain ⟨css, hs, hl, ho, hat⟩ := h
  have hpos : 0 < l.length := by omega
  have hq : q.toNat < l.length := by omega
  have hq' : q.toNat < css.length := by rw [hs.1]; exact hq
  have hf := (hs.flat (fun _ _ _ h => K.len h)).1
  rcases hat with ⟨rfl, h0⟩ | ⟨g, c, rfl, hg, hA, hc, hm⟩
  · omega
  · have hK := hs.2 _ _ _ (List.getElem?_eq_getElem hq) (List.getElem?_eq_getElem hq')
    refine ⟨g, _, _, List.getElem?_eq_getElem hq, K.okk (fun b hb _ => hb.1) hK, fun j u hu => ?_, rfl, fun hx hy => ?_⟩
    · rw [add_at]
      exact hA.rd (flat_get hf (List.getElem?_eq_getElem hq') hu)
    · have hh := fun {H2 N d ty pos af gd} => HV.ix (P := P) (W := W) (H := H2) (N := N) (d := d) (ty := ty) (pos := pos) (af := af) (gd := gd) (ad := ⟨g, 0, none⟩) ht h0 h1 hx hy
      simp only [add_at, Nat.zero_add] at hh
      exact hh
theorem segs_set {R : α → List Value → Prop} {css : List (List Value)} (h : Segs (fun _ => R) l css) {i : Nat} {x' : α} {cs' : List Value} (hR : R x' cs') : Segs (fun _ => R) (l.set i x') (css.set i cs') := by
  refine ⟨by simp [h.1], fun j x cs h1 h2 => ?_⟩
  rw [List.getElem?_set] at h1 h2
  split at h1
  · rename_i e
    subst e
    rw [if_pos rfl] at h2
    split at h1
    · split at h2
      · cases h1; cases h2; exact hR
      · cases h2
    · cases h1
  · rename_i e
    rw [if_neg e] at h2
    exact h.2 j x cs h1 h2
theorem flat_set {css : List (List Value)} {n : Nat} (h : ∀ cs ∈ css, cs.length = n) {i : Nat} (hi : i < css.length) {cs' : List Value} (hc : cs'.length = n) : (css.set i cs').flatten = splice css.flatten (i * n) cs' := by
  unfold splice
  rw [← flat_take h, hc, show i * n + n = (i + 1) * n by rw [Nat.succ_mul], ← flat_drop h, List.set_eq_take_append_cons_drop, if_pos hi]
  simp [List.flatten_append]
/-- A store into an element of the call's own. -/
theorem WV.stK {okx : Nat → Prop} {e g : Nat} {u : Value} {agg : Bool} {i : Nat} {x' : α} {dst : Option Nat} (h : OwnK K e W H ok v l) (hg : some g = v.ownBlock) (hx : evl E x = some (.pointer (some ⟨g, i * K.sz, none⟩))) (hy : evl E y = some u) (ht : VarT P t agg K.sz)
    (hi : i < l.length) (hK : K.rd W H okx x' u.cells.toList) (hoff : ∀ b, okx b → b < H.bd → ¬ some b = v.ownBlock) :
    WV P W N E H ⟨dst, .store t x y, ty, pos, af, gd⟩ (fun _ H' => But (fun b => some b = v.ownBlock) H H' ∧ OwnK K e W H' (fun b => ok b ∨ okx b) v (l.set i x')) := by
  obtain ⟨css, hs, hl, ho, hat⟩ := h
  have hf := (hs.flat (fun _ _ _ h => K.len h)).1
  have hi' : i < css.length := by rw [hs.1]; exact hi
  have hcl : u.cells.toList.length = K.sz := K.len hK
  rcases hat with ⟨rfl, h0⟩ | ⟨g', c, rfl, hg', hA, hc, hm⟩
  · omega
  · simp only [Value.ownBlock, Option.some.injEq] at hg
    subst hg
    have hlen : i * K.sz + K.sz ≤ css.flatten.length := by
      rw [(hs.flat (fun _ _ _ h => K.len h)).2, ← Nat.succ_mul]
      exact Nat.mul_le_mul_right _ hi
    have ebl : (fun b => some b = (Value.slice (some ⟨g, 0, none⟩) l.length c).ownBlock) = fun b => b = g := by
      funext b; simp [Value.ownBlock]
    refine (WV.st hx hy ht (by simpa using hcl) hA hlen (K.one hK)).mono fun _ H' ⟨h1, h2⟩ => ?_
    rw [ebl]
    have hW : ∀ b, b = g → W.heap.size ≤ b := fun b hb => hb ▸ hA.w
    refine ⟨h1, css.set i u.cells.toList, segs_set (Segs.imp hs fun _ x cs hx => ?_) ?_, ?_, ?_, .inr ⟨g, c, by rw [List.length_set], .inl hg', ?_, by rw [List.length_set]; exact hc, hm⟩⟩
    · exact K.okk (fun b hb _ => ⟨.inl hb.1, hb.2⟩) (K.but h1 (fun b hb _ e => hb.2 (by rw [e]; rfl)) hW hx)
    · have hK2 : K.rd W H (fun b => okx b ∧ b ≠ g) x' u.cells.toList := K.okk (fun b hb hlt => ⟨hb, fun e => hoff b hb hlt (by rw [e]; rfl)⟩) hK
      exact K.okk (fun b hb _ => ⟨.inr hb.1, fun e => hb.2 (by simpa [Value.ownBlock] using e)⟩) (K.but h1 (fun b hb _ e => hb.2 e) hW hK2)
    · rw [flat_set hf hi' hcl, splice_length _ _ _ (by rw [hcl]; exact hlen), List.length_set]
      exact hl
    · rw [flat_set hf hi' hcl]
      intro w hw
      simp only [splice, List.mem_append] at hw
      rcases hw with (hw | hw) | hw
      · exact ho w (List.mem_of_mem_take hw)
      · exact K.one hK w hw
      · exact ho w (List.mem_of_mem_drop hw)
    · rw [flat_set hf hi' hcl]; exact h2
theorem OwnD.blk {e : Nat} (h : OwnD K e W H ok v l) : ∀ b, some b = v.ownBlock → ok b ∧ b < H.bd ∧ W.heap.size ≤ b := h.own.blk
theorem OwnD.ltb {e : Nat} (h : OwnD K e W H ok v l) : ∀ b, some b = v.ownBlock → b < H.bd := h.own.ltb
theorem OwnD.lo {e : Nat} (h : OwnD K e W H ok v l) : OwnD K e W H (fun b => ok b ∧ b < H.bd) v l := h.okk (fun b hb hlt => ⟨hb, hlt⟩)
theorem WV.mkD {e : TypeId} {u : Value} {bytes : Nat} {k k' : IntKind} {q : Int} (x0 : α) (hK : ∀ W H ok, K.rd W H ok x0 [u]) (ht : SlT P t e u 1 bytes) (hu : u.cells = #[u]) (hx : evl E x = some (.int k q)) (hy : evl E y = some (.int k' q))
    (h0 : 0 ≤ q) (hb : bytes * q ≤ 140737488355328) (hm : q ≤ 9223372036854775807) :
    WV P W N E H ⟨some d, .makeSlice t x y, ty, pos, af, gd⟩ (fun v H' => Ext H H' ∧ OwnD K e W H' (fun b => H.bd ≤ b) v (List.replicate q.toNat x0)) := by
  have hs : K.sz = 1 := (K.len (hK W H (fun _ => True))).symm
  have hone : u.oneCell' = true := K.one (hK W H (fun _ => True)) u List.mem_cons_self
  have hc : (madeCells u.cells (q.toNat * 1)).toList = (List.replicate q.toNat [u]).flatten := by
    rw [hu, toList_madeCells_one, Nat.mul_one, List.flatten_replicate_singleton]
  refine (WV.mk ht hx hy h0 hb hm (fun w hw => ?_)).mono fun v H' ⟨h1, h2⟩ => ⟨h1, fun _ => 0, List.replicate q.toNat [u], ⟨by simp, fun i x cs g1 g2 => ?_⟩, ?_⟩
  · rw [hc, List.flatten_replicate_singleton] at hw
    rw [(List.mem_replicate.1 hw).2]
    exact hone
  · rw [List.getElem?_replicate] at g1 g2
    split at g1
    · rename_i hn
      rw [if_pos hn] at g2
      cases g1; cases g2; exact hK _ _ _
    · cases g1
  · rw [hc] at h2
    rw [List.length_replicate, hs]
    exact h2
/-- A store into a row that owns its elements' rows: of an element that was made from B on. -/
theorem WV.stD {e g B : Nat} {u : Value} {agg : Bool} {i : Nat} {x' : α} {dst : Option Nat} (h : OwnD K e W H (fun b => ok b ∧ b < B) v l) (hg : some g = v.ownBlock) (hx : evl E x = some (.pointer (some ⟨g, i * K.sz, none⟩))) (hy : evl E y = some u) (ht : VarT P t agg K.sz)
    (hi : i < l.length) (hK : K.rd W H (fun b => B ≤ b) x' u.cells.toList) :
    WV P W N E H ⟨dst, .store t x y, ty, pos, af, gd⟩ (fun _ H' => But (fun b => some b = v.ownBlock) H H' ∧ OwnD K e W H' (fun b => ok b ∨ B ≤ b) v (l.set i x')) := by
  obtain ⟨lab, css, hs, hl, ho, hat⟩ := h
  have hf := (hs.flat (fun _ _ _ h => K.len h)).1
  have hi' : i < css.length := by rw [hs.1]; exact hi
  have hcl : u.cells.toList.length = K.sz := K.len hK
  rcases hat with ⟨rfl, h0⟩ | ⟨g', c, rfl, hg', hA, hc, hm⟩
  · omega
  · simp only [Value.ownBlock, Option.some.injEq] at hg
    subst hg
    have hlen : i * K.sz + K.sz ≤ css.flatten.length := by
      rw [(hs.flat (fun _ _ _ h => K.len h)).2, ← Nat.succ_mul]
      exact Nat.mul_le_mul_right _ hi
    have ebl : (fun b => some b = (Value.slice (some ⟨g, 0, none⟩) l.length c).ownBlock) = fun b => b = g := by
      funext b; simp [Value.ownBlock]
    refine (WV.st hx hy ht (by simpa using hcl) hA hlen (K.one hK)).mono fun _ H' ⟨h1, h2⟩ => ?_
    rw [ebl]
    have hW : ∀ b, b = g → W.heap.size ≤ b := fun b hb => hb ▸ hA.w
    refine ⟨h1, fun b => if B ≤ b then i else lab b, css.set i u.cells.toList, ⟨by simp [hs.1], fun j z cs q1 q2 => ?_⟩, ?_, ?_, .inr ⟨g, c, by rw [List.length_set], .inl hg'.1, ?_, by rw [List.length_set]; exact hc, hm⟩⟩
    · rw [List.getElem?_set] at q1 q2
      split at q1
      · rename_i e
        subst e
        rw [if_pos rfl] at q2
        simp only [hi, hi', if_true, Option.some.injEq] at q1 q2
        subst q1; subst q2
        refine K.okk (ok := fun b => B ≤ b) (fun b hb _ => ⟨.inr hb, fun e => ?_, if_pos hb⟩) (K.but h1 (fun b hb _ e => ?_) hW hK)
        · have e' : b = g := by simpa [Value.ownBlock] using e
          have := hg'.2; omega
        · have := hg'.2; omega
      · rename_i e
        rw [if_neg e] at q2
        refine K.okk (fun b hb _ => ⟨.inl hb.1.1, hb.2.1, ?_⟩) (K.but h1 (fun b hb _ e => hb.2.1 (by rw [e]; rfl)) hW (hs.2 j z cs q1 q2))
        exact (if_neg (by have := hb.1.2; omega)).trans hb.2.2
    · rw [flat_set hf hi' hcl, splice_length _ _ _ (by rw [hcl]; exact hlen), List.length_set]
      exact hl
    · rw [flat_set hf hi' hcl]
      intro w hw
      simp only [splice, List.mem_append] at hw
      rcases hw with (hw | hw) | hw
      · exact ho w (List.mem_of_mem_take hw)
      · exact K.one hK w hw
      · exact ho w (List.mem_of_mem_drop hw)
    · rw [flat_set hf hi' hcl]; exact h2
/-- An element's row of a deep row is written: the row goes on. -/
theorem OwnD.mark {β : Type} {K' : Kd β} {e e' g i : Nat} {ok okx : Nat → Prop} {v u : Value} {l : List (List β)} {x' : List β} (hF : Flat K') (h : OwnD (kO e' K') e W H ok v l) (hg : some g = v.ownBlock) (hC : rdc W H ⟨g, i * (kO e' K').sz, none⟩ = some u) (hi : i < l.length)
    (k : But (fun b => some b = u.ownBlock) H H') (hu : OwnK K' e' W H' okx u x') : OwnD (kO e' K') e W H' ok v (l.set i x') ∧ ∀ b, some b = u.ownBlock → ok b := by
  obtain ⟨lab, css, hs, hl, ho, hat⟩ := h
  have hf := (hs.flat (fun _ _ _ h => (kO e' K').len h)).1
  have hi' : i < css.length := by rw [hs.1]; exact hi
  rcases hat with ⟨rfl, h0⟩ | ⟨g', c, rfl, hg', hA, hc, hm⟩
  · omega
  · simp only [Value.ownBlock, Option.some.injEq] at hg
    subst hg
    obtain ⟨u0, hcs, hO⟩ := hs.2 i _ _ (List.getElem?_eq_getElem hi) (List.getElem?_eq_getElem hi')
    have e1 : css.flatten[i * (kO e' K').sz + 0]? = some u0 := flat_get hf (List.getElem?_eq_getElem hi') (by rw [hcs]; rfl)
    have e2 := hA.rd e1
    rw [Nat.add_zero, hC] at e2
    cases e2
    have hb := hO.blk
    have hW : ∀ b, some b = u.ownBlock → W.heap.size ≤ b := fun b q => (hb b q).2.2
    refine ⟨⟨lab, css, ⟨by simp [hs.1], fun j z cs q1 q2 => ?_⟩, by rw [List.length_set]; exact hl, ho, .inr ⟨g, c, by rw [List.length_set], hg', hA.but k (fun q => (hb g q).1.2.1 rfl), by rw [List.length_set]; exact hc, hm⟩⟩, fun b q => (hb b q).1.1⟩
    rw [List.getElem?_set] at q1
    split at q1
    · rename_i ej
      subst ej
      simp only [hi, if_true, Option.some.injEq] at q1
      subst q1
      rw [List.getElem?_eq_getElem hi'] at q2
      cases q2
      exact ⟨u, hcs, hu.narrow hF (fun b q => (hb b q).1)⟩
    · rename_i ej
      exact (kO e' K').but k (fun b q _ q2 => ej ((hb b q2).1.2.2.symm.trans q.2.2)) hW (hs.2 j z cs q1 q2)
/-- 'append(v, x)', x's cells laid by a literal; or 'append(v, xs...)'. -/
theorem segs_append {R : Nat → α → List Value → Prop} {l' : List α} {css css' : List (List Value)} (h : Segs R l css) (h' : Segs (fun i => R (l.length + i)) l' css') : Segs R (l ++ l') (css ++ css') := by
  refine ⟨by rw [List.length_append, List.length_append, h.1, h'.1], fun i x cs h1 h2 => ?_⟩
  rcases Nat.lt_or_ge i l.length with hi | hi
  · rw [List.getElem?_append_left hi] at h1
    rw [List.getElem?_append_left (by rw [h.1]; exact hi)] at h2
    exact h.2 i x cs h1 h2
  · rw [List.getElem?_append_right hi] at h1
    rw [List.getElem?_append_right (by rw [h.1]; exact hi), h.1] at h2
    have := h'.2 _ x cs h1 h2
    have e : l.length + (i - l.length) = i := by omega
    simp only [e] at this
    exact this
theorem segs_nil {R : Nat → α → List Value → Prop} : Segs R [] [] := ⟨rfl, fun i x cs h => by cases h⟩
theorem segs_cons {R : α → List Value → Prop} {x : α} {cs : List Value} {l' : List α} {css' : List (List Value)} (h : R x cs) (k : Segs (fun _ => R) l' css') : Segs (fun _ => R) (x :: l') (cs :: css') :=
  ⟨by simp [k.1], fun i y c h1 h2 => by
    cases i with
    | zero => simp only [List.getElem?_cons_zero, Option.some.injEq] at h1 h2; subst h1; subst h2; exact h
    | succ i => simp only [List.getElem?_cons_succ] at h1 h2; exact k.2 i y c h1 h2⟩
theorem WV.bsK {e : TypeId} {z : Value} {bytes len : Nat} {parts : List (Nat × Operand)} {vs : List (Nat × Value)} {css : List (List Value)} (ht : SlT P t e z K.sz bytes)
    (hv : evls E parts = some vs) (hlen : Nat.ble (len * K.sz) 16777216 = true)
    (hf : Instr.fill (fun i => some (i * K.sz, K.sz)) ((Array.range (len * K.sz)).map (z.cells[· % z.cells.size]!)) vs = some css.flatten.toArray) (hl : l.length = len) (hs : Segs (fun _ x cs => K.rd W H (fun _ => False) x cs) l css) :
    WV P W N E H ⟨some d, .buildSlice t len parts.toArray, ty, pos, af, gd⟩ (fun v H' => Ext H H' ∧ OwnK K e W H' (fun b => H.bd ≤ b) v l) := by
  have hf2 := hs.flat (fun _ _ _ h => K.len h)
  refine (WV.bs ht hv hlen hf (fun u hu => ?_) (by rw [hf2.2, hl])).mono fun v H' ⟨h1, h2⟩ => ⟨h1, css, hs.imp (fun _ _ _ h => K.okk (fun b f _ => f.elim) (K.but h1 (fun _ f => f.elim) (fun _ f => f.elim) h)), by rw [hl]; exact h2⟩
  obtain ⟨cs, hcs, hu⟩ := List.mem_flatten.1 hu
  obtain ⟨i, hi⟩ := List.getElem?_of_mem hcs
  have hil : i < l.length := by rw [← hs.1]; exact (List.getElem?_eq_some_iff.1 hi).1
  exact K.one (hs.2 i _ _ (List.getElem?_eq_getElem hil) hi) u hu
theorem WV.apk {okx : Nat → Prop} {e : TypeId} {z : Value} {bytes : Nat} {u : Value} {l' : List α} (ht : SlT P t e z K.sz bytes)
    (hx : evl E x = some v) (hy : evl E y = some u) (hv : OwnK K e W H ok v l) (hu : RdK K W H okx u l') (hb : (l.length + l'.length) * bytes ≤ 140737488355328) (hm : l.length + l'.length ≤ 9223372036854775807)
    (hoff : ∀ b, okx b → b < H.bd → ¬ some b = v.ownBlock) :
    WV P W N E H ⟨some d, .call { callee := .builtin .append, args := #[x, y], argTypes := #[t, t] }, ty, pos, af, gd⟩
      (fun v' H' => But (fun b => some b = v.ownBlock) H H' ∧ OwnK K e W H' (fun b => ok b ∨ okx b ∨ H.bd ≤ b) v' (l ++ l') ∧ (∀ b, some b = v'.ownBlock → some b = v.ownBlock ∨ H.bd ≤ b)) := by
  obtain ⟨css, h1, h2⟩ := hv
  obtain ⟨css', g1, g2⟩ := hu
  have h2' : OwnV W H (fun b => some b = v.ownBlock) e K.sz v l.length css.flatten := by
    obtain ⟨i1, i2, i3⟩ := h2
    refine ⟨i1, i2, ?_⟩
    rcases i3 with i3 | ⟨g, c, rfl, j1, j2, j3⟩
    · exact .inl i3
    · exact .inr ⟨g, c, rfl, rfl, j2, j3⟩
  refine (WV.app ht hx hy h2' g2 hb hm).mono fun v' H' ⟨k1, k2⟩ => ⟨k1, ⟨css ++ css', segs_append (h1.imp fun _ _ cs hK => ?_) (g1.imp fun _ _ cs hK => ?_), ?_⟩, (fun b hb => (k2.blk b hb).1)⟩
  · have hW : ∀ b, some b = v.ownBlock → W.heap.size ≤ b := fun b hb => (h2.blk b hb).2.2
    have := K.but k1 (fun b hb _ => hb.2) hW (K.okk (ok' := fun b => (ok b ∧ some b ≠ v.ownBlock) ∧ b < H.bd) (fun b hb hlt => ⟨hb, hlt⟩) hK |> fun hh => K.okk (ok' := fun b => ok b ∧ some b ≠ v.ownBlock) (fun b hb _ => hb.1) hh)
    have hlt := K.but k1 (fun b hb _ => hb.1.2) hW (K.okk (ok' := fun b => (ok b ∧ some b ≠ v.ownBlock) ∧ b < H.bd) (fun b hb hlt => ⟨hb, hlt⟩) hK)
    exact K.okk (fun b hb _ => ⟨.inl hb.1.1, fun e => by
      rcases (k2.blk b e).1 with hn | hn
      · exact hb.1.2 hn
      · omega⟩) hlt
  · have hW : ∀ b, some b = v.ownBlock → W.heap.size ≤ b := fun b hb => (h2.blk b hb).2.2
    have hlt := K.but k1 (fun b hb _ => hoff b hb.1 hb.2) hW (K.okk (ok' := fun b => okx b ∧ b < H.bd) (fun b hb hlt => ⟨hb, hlt⟩) hK)
    refine K.okk (ok := fun b => (okx b ∧ b < H.bd) ∧ ¬ some b = v.ownBlock) (fun b hb _ => ⟨.inr (.inl hb.1.1), fun e => by
      rcases (k2.blk b e).1 with hn | hn
      · exact hb.2 hn
      · have := hb.1.2; omega⟩) ?_
    exact K.okk (fun b hb _ => ⟨hb, fun e => hoff b hb.1 hb.2 e⟩) hlt
  · rw [List.length_append, List.flatten_append]
    exact k2.ok (fun b hb _ => by
      rcases hb with hb | hb
      · exact .inl (h2.blk b hb).1
      · exact .inr (.inr hb))
end
/-- Two things side by side. -/
def kP {α β : Type} (A : Kd α) (B : Kd β) : Kd (α × β) where
  sz := A.sz + B.sz
  rd := fun W H ok x cs => ∃ c1 c2, cs = c1 ++ c2 ∧ A.rd W H ok x.1 c1 ∧ B.rd W H ok x.2 c2
  len := fun ⟨c1, c2, e, h1, h2⟩ => by rw [e, List.length_append, A.len h1, B.len h2]
  one := fun ⟨c1, c2, e, h1, h2⟩ u hu => by
    rw [e] at hu
    rcases List.mem_append.1 hu with hu | hu
    · exact A.one h1 u hu
    · exact B.one h2 u hu
  but := fun k ho hW ⟨c1, c2, e, h1, h2⟩ => ⟨c1, c2, e, A.but k ho hW h1, B.but k ho hW h2⟩
  okk := fun k ⟨c1, c2, e, h1, h2⟩ => ⟨c1, c2, e, A.okk k h1, B.okk k h2⟩
theorem le_P {α β : Type} {A A' : Kd α} {B B' : Kd β} (h1 : Le A A') (h2 : Le B B') : Le (kP A B) (kP A' B') :=
  ⟨by show A'.sz + B'.sz = A.sz + B.sz; rw [h1.1, h2.1], fun _ _ _ _ _ ⟨c1, c2, e, a, b⟩ => ⟨c1, c2, e, h1.2 _ _ _ _ _ a, h2.2 _ _ _ _ _ b⟩⟩
theorem made_flat (z : Array Value) (n : Nat) : (madeCells z (n * z.size)).toList = (List.replicate n z.toList).flatten := by
  apply List.ext_getElem?
  intro j
  by_cases hj : j < n * z.size
  · have hp : 0 < z.size := by
      rcases Nat.eq_zero_or_pos z.size with h | h
      · rw [h] at hj; omega
      · exact h
    have hd : j / z.size < n := Nat.div_lt_of_lt_mul (by rw [Nat.mul_comm]; exact hj)
    have hm : j % z.size < z.size := Nat.mod_lt _ hp
    have := flat_get (css := List.replicate n z.toList) (n := z.size) (fun cs h => by rw [(List.mem_replicate.1 h).2]; simp) (i := j / z.size) (j := j % z.size) (cs := z.toList) (u := z[j % z.size]) (by rw [List.getElem?_replicate, if_pos hd]) (by simp [hm])
    rw [Nat.div_add_mod'] at this
    rw [this]
    simp [madeCells, hj, hm]
  · have hl : (List.replicate n z.toList).flatten.length = n * z.size := by simp
    rw [List.getElem?_eq_none (by simp [size_madeCells]; omega), List.getElem?_eq_none (by rw [hl]; omega)]
/-- make([]T, n), elements of several cells that own their rows. -/
theorem WV.mkDn {d : Nat} {ty : TypeId} {pos : String} {af : Array Edge} {gd : Option (Nat × Bool)} {t : TypeId} {x y : Operand} {α : Type} {K : Kd α} {e : TypeId} {u : Value} {bytes : Nat} {k k' : IntKind} {q : Int} (x0 : α) (hK : ∀ W H ok, K.rd W H ok x0 u.cells.toList) (ht : SlT P t e u K.sz bytes) (hx : evl E x = some (.int k q)) (hy : evl E y = some (.int k' q))
    (h0 : 0 ≤ q) (hb : bytes * q ≤ 140737488355328) (hm : q ≤ 9223372036854775807) :
    WV P W N E H ⟨some d, .makeSlice t x y, ty, pos, af, gd⟩ (fun v H' => Ext H H' ∧ OwnD K e W H' (fun b => H.bd ≤ b) v (List.replicate q.toNat x0)) := by
  have hs : K.sz = u.cells.size := by have := K.len (hK W H (fun _ => True)); rw [← this]; simp
  have hc : (madeCells u.cells (q.toNat * K.sz)).toList = (List.replicate q.toNat u.cells.toList).flatten := by rw [hs]; exact made_flat _ _
  refine (WV.mk ht hx hy h0 hb hm (fun w hw => ?_)).mono fun v H' ⟨h1, h2⟩ => ⟨h1, fun _ => 0, List.replicate q.toNat u.cells.toList, ⟨by simp, fun i x cs g1 g2 => ?_⟩, ?_⟩
  · rw [hc] at hw
    obtain ⟨cs, h1, h2⟩ := List.mem_flatten.1 hw
    rw [(List.mem_replicate.1 h1).2] at h2
    exact K.one (hK W H (fun _ => True)) _ h2
  · rw [List.getElem?_replicate] at g1 g2
    split at g1
    · rename_i hn
      rw [if_pos hn] at g2
      cases g1; cases g2; exact hK _ _ _
    · cases g1
  · rw [hc] at h2
    rw [List.length_replicate]
    exact h2
/-- make([]T, n), elements of several cells. -/
theorem WV.mkKn {d : Nat} {ty : TypeId} {pos : String} {af : Array Edge} {gd : Option (Nat × Bool)} {t : TypeId} {x y : Operand} {α : Type} {K : Kd α} {e : TypeId} {u : Value} {bytes : Nat} {k k' : IntKind} {q : Int} (x0 : α) (hK : ∀ W H ok, K.rd W H ok x0 u.cells.toList) (ht : SlT P t e u K.sz bytes) (hx : evl E x = some (.int k q)) (hy : evl E y = some (.int k' q))
    (h0 : 0 ≤ q) (hb : bytes * q ≤ 140737488355328) (hm : q ≤ 9223372036854775807) :
    WV P W N E H ⟨some d, .makeSlice t x y, ty, pos, af, gd⟩ (fun v H' => Ext H H' ∧ OwnK K e W H' (fun b => H.bd ≤ b) v (List.replicate q.toNat x0)) := by
  have hs : K.sz = u.cells.size := by have := K.len (hK W H (fun _ => True)); rw [← this]; simp
  have hc : (madeCells u.cells (q.toNat * K.sz)).toList = (List.replicate q.toNat u.cells.toList).flatten := by rw [hs]; exact made_flat _ _
  refine (WV.mk ht hx hy h0 hb hm (fun w hw => ?_)).mono fun v H' ⟨h1, h2⟩ => ⟨h1, List.replicate q.toNat u.cells.toList, segs_rep (hK _ _ _) _, ?_⟩
  · rw [hc] at hw
    obtain ⟨cs, h1, h2⟩ := List.mem_flatten.1 hw
    rw [(List.mem_replicate.1 h1).2] at h2
    exact K.one (hK W H (fun _ => True)) _ h2
  · rw [hc] at h2
    rw [List.length_replicate]
    exact h2
theorem kP_flat {α β : Type} {A : Kd α} {B : Kd β} (h1 : Flat A) (h2 : Flat B) : Flat (kP A B) := fun _ _ _ _ _ _ _ ⟨c1, c2, e, a, b⟩ => ⟨c1, c2, e, h1 _ _ _ _ _ _ _ a, h2 _ _ _ _ _ _ _ b⟩
theorem splice_in {A cs B u : List Value} {off : Nat} (h : off + u.length ≤ cs.length) : splice (A ++ cs ++ B) (A.length + off) u = A ++ splice cs off u ++ B := by
  unfold splice
  have e1 : (A ++ cs ++ B).take (A.length + off) = A ++ cs.take off := by rw [List.append_assoc, List.take_length_add_append, List.take_append_of_le_length (by omega)]
  have e2 : (A ++ cs ++ B).drop (A.length + off + u.length) = cs.drop (off + u.length) ++ B := by rw [List.append_assoc, Nat.add_assoc, List.drop_length_add_append, List.drop_append_of_le_length h]
  rw [e1, e2]; simp [List.append_assoc]
theorem flat_splice {css : List (List Value)} {n i off : Nat} {cs u : List Value} (h : ∀ cs ∈ css, cs.length = n) (hc : css[i]? = some cs) (hu : off + u.length ≤ n) : (css.set i (splice cs off u)).flatten = splice css.flatten (i * n + off) u := by
  obtain ⟨hi, rfl⟩ := List.getElem?_eq_some_iff.1 hc
  have hl : (css.take i).flatten.length = i * n := by
    have := List.length_flatten (L := css.take i)
    rw [this, List.map_congr_left (g := fun _ => n) (fun x hx => h x (List.mem_of_mem_take hx))]
    simp only [List.map_const', List.sum_replicate_nat, List.length_take]
    rw [Nat.min_eq_left (by omega)]
  have e0 : css = css.take i ++ css[i] :: css.drop (i + 1) := by rw [← List.drop_eq_getElem_cons hi, List.take_append_drop]
  have e : css.flatten = (css.take i).flatten ++ css[i] ++ (css.drop (i + 1)).flatten := by
    exact (congrArg List.flatten e0).trans (by simp only [List.flatten_append, List.flatten_cons, List.append_assoc])
  rw [List.set_eq_take_append_cons_drop, if_pos hi, e, ← hl, splice_in (by rw [h _ (List.getElem_mem hi)]; exact hu)]
  simp [List.flatten_append]
/-- A store into a field of an element of the call's own (flat elements). -/
theorem WV.stF {ty : TypeId} {pos : String} {af : Array Edge} {gd : Option (Nat × Bool)} {t : TypeId} {x y : Operand} {α : Type} {K : Kd α} {ok : Nat → Prop} {v : Value} {l : List α} {e g : Nat} {u : Value} {agg : Bool} {i off n : Nat} {z x' : α} {dst : Option Nat} (hF : Flat K) (h : OwnK K e W H ok v l) (hg : some g = v.ownBlock) (hx : evl E x = some (.pointer (some ((⟨g, i * K.sz, none⟩ : Addr).add off)))) (hy : evl E y = some u) (ht : VarT P t agg n) (hn : u.cells.size = n)
    (hz : l[i]? = some z) (hoff : off + n ≤ K.sz) (hone : ∀ w ∈ u.cells.toList, w.oneCell' = true) (hK : ∀ cs, K.rd W H (fun _ => False) z cs → K.rd W H (fun _ => False) x' (splice cs off u.cells.toList)) :
    WV P W N E H ⟨dst, .store t x y, ty, pos, af, gd⟩ (fun _ H' => But (fun b => some b = v.ownBlock) H H' ∧ OwnK K e W H' ok v (l.set i x')) := by
  have hi : i < l.length := (List.getElem?_eq_some_iff.1 hz).1
  obtain ⟨css, hs, hl, ho, hat⟩ := h
  have hf := (hs.flat (fun _ _ _ h => K.len h)).1
  have hi' : i < css.length := by rw [hs.1]; exact hi
  have hcs : css[i]? = some css[i] := List.getElem?_eq_getElem hi'
  have hlc : css[i].length = K.sz := hf _ (List.getElem_mem hi')
  have hul : u.cells.toList.length = n := by simpa using hn
  rw [add_at] at hx
  rcases hat with ⟨rfl, h0⟩ | ⟨g', c, rfl, hg', hA, hc, hm⟩
  · omega
  · simp only [Value.ownBlock, Option.some.injEq] at hg
    subst hg
    have hlen : i * K.sz + K.sz ≤ css.flatten.length := by
      rw [(hs.flat (fun _ _ _ h => K.len h)).2, ← Nat.succ_mul]
      exact Nat.mul_le_mul_right _ hi
    have ebl : (fun b => some b = (Value.slice (some ⟨g, 0, none⟩) l.length c).ownBlock) = fun b => b = g := by
      funext b; simp [Value.ownBlock]
    refine (WV.st hx hy ht hn hA (by show i * K.sz + off + n ≤ css.flatten.length; omega) hone).mono fun _ H' ⟨h1, h2⟩ => ?_
    rw [ebl]
    have hR : K.rd W H (fun _ => False) x' (splice css[i] off u.cells.toList) := hK _ (hF _ _ _ _ _ _ _ (hs.2 i z _ hz hcs))
    have hfs := flat_splice hf hcs (u := u.cells.toList) (off := off) (by omega)
    refine ⟨h1, css.set i (splice css[i] off u.cells.toList), segs_set (Segs.imp hs fun _ x cs hx => hF _ _ _ _ _ _ _ hx) (hF _ _ _ _ _ _ _ hR), ?_, ?_, .inr ⟨g, c, by rw [List.length_set], hg', ?_, by rw [List.length_set]; exact hc, hm⟩⟩
    · rw [hfs, splice_length _ _ _ (by rw [hul]; omega), List.length_set]
      exact hl
    · rw [hfs]
      intro w hw
      simp only [splice, List.mem_append] at hw
      rcases hw with (hw | hw) | hw
      · exact ho w (List.mem_of_mem_take hw)
      · exact hone w hw
      · exact ho w (List.mem_of_mem_drop hw)
    · rw [hfs]; exact h2
/-! ### Rows of rows that grow -/
theorem OwnK.deep0 {α : Type} {K : Kd α} {e : Nat} {ok : Nat → Prop} {v : Value} (h : OwnK K e W H ok v ([] : List α)) : OwnD K e W H ok v [] := by
  obtain ⟨css, h1, h2⟩ := h
  exact ⟨fun _ => 0, css, ⟨h1.1, fun i x cs h => by simp at h⟩, h2⟩
section
variable {d : Nat} {ty : TypeId} {pos : String} {af : Array Edge} {gd : Option (Nat × Bool)} {t : TypeId} {x y : Operand} {α : Type} {K : Kd α} {ok : Nat → Prop} {v : Value} {l : List α}
/-- A new row of things that own rows. -/
theorem WV.bsO {okx : Nat → Prop} {e : TypeId} {z : Value} {bytes len : Nat} {parts : List (Nat × Operand)} {vs : List (Nat × Value)} {css : List (List Value)} (ht : SlT P t e z K.sz bytes)
    (hv : evls E parts = some vs) (hlen : Nat.ble (len * K.sz) 16777216 = true)
    (hf : Instr.fill (fun i => some (i * K.sz, K.sz)) ((Array.range (len * K.sz)).map (z.cells[· % z.cells.size]!)) vs = some css.flatten.toArray) (hl : l.length = len) (hs : Segs (fun _ x cs => K.rd W H okx x cs) l css) :
    WV P W N E H ⟨some d, .buildSlice t len parts.toArray, ty, pos, af, gd⟩ (fun v H' => Ext H H' ∧ OwnK K e W H' (fun b => okx b ∨ H.bd ≤ b) v l) := by
  have hf2 := hs.flat (fun _ _ _ h => K.len h)
  refine (WV.bs ht hv hlen hf (fun u hu => ?_) (by rw [hf2.2, hl])).mono fun v H' ⟨h1, h2⟩ => ⟨h1, css, hs.imp (fun _ _ _ h => ?_), by rw [hl]; exact h2.ok (fun b hb _ => .inr hb)⟩
  · obtain ⟨cs, hcs, hu⟩ := List.mem_flatten.1 hu
    obtain ⟨i, hi⟩ := List.getElem?_of_mem hcs
    have hil : i < l.length := by rw [← hs.1]; exact (List.getElem?_eq_some_iff.1 hi).1
    exact K.one (hs.2 i _ _ (List.getElem?_eq_getElem hil) hi) u hu
  · have h0 : K.rd W H (fun b => okx b ∧ b < H.bd) _ _ := K.okk (fun b hb hlt => ⟨hb, hlt⟩) h
    exact K.okk (fun b hb _ => ⟨.inl hb.1, fun e => by have := (h2.blk b e).1; have := hb.2; omega⟩) (K.but h1 (fun _ _ _ f => f) (fun _ f => f.elim) h0)
/-- A row that owns its elements' rows gets one more. -/
theorem WV.apD {e : TypeId} {B : Nat} {z : Value} {bytes : Nat} {u : Value} {x' : α} (ht : SlT P t e z K.sz bytes)
    (hx : evl E x = some v) (hy : evl E y = some u) (hv : OwnD K e W H (fun b => ok b ∧ b < B) v l) (hu : RdK K W H (fun b => B ≤ b) u [x']) (hB : B ≤ H.bd) (hb : (l.length + 1) * bytes ≤ 140737488355328) (hm : l.length + 1 ≤ 9223372036854775807) :
    WV P W N E H ⟨some d, .call { callee := .builtin .append, args := #[x, y], argTypes := #[t, t] }, ty, pos, af, gd⟩
      (fun v' H' => But (fun b => some b = v.ownBlock) H H' ∧ OwnD K e W H' (fun b => ok b ∨ B ≤ b) v' (l ++ [x']) ∧ (∀ b, some b = v'.ownBlock → some b = v.ownBlock ∨ H.bd ≤ b)) := by
  obtain ⟨lab, css, h1, h2⟩ := hv
  obtain ⟨css', g1, g2⟩ := hu
  have h2' : OwnV W H (fun b => some b = v.ownBlock) e K.sz v l.length css.flatten := by
    obtain ⟨i1, i2, i3⟩ := h2
    refine ⟨i1, i2, ?_⟩
    rcases i3 with i3 | ⟨g, c, rfl, j1, j2, j3⟩
    · exact .inl i3
    · exact .inr ⟨g, c, rfl, rfl, j2, j3⟩
  have hW : ∀ b, some b = v.ownBlock → W.heap.size ≤ b := fun b hb => (h2.blk b hb).2.2
  have hlo : ∀ b, some b = v.ownBlock → b < B := fun b hb => (h2.blk b hb).1.2
  refine (WV.app ht hx hy h2' g2 hb hm).mono fun v' H' ⟨k1, k2⟩ => ⟨k1, ⟨fun b => if B ≤ b then l.length else lab b, css ++ css', segs_append (h1.imp fun i _ cs hK => ?_) ⟨g1.1, fun i w cs q1 q2 => ?_⟩, ?_⟩, fun b hb => (k2.blk b hb).1⟩
  · exact K.okk (fun b hb _ => ⟨.inl hb.1.1, fun e => by
      rcases (k2.blk b e).1 with hn | hn
      · exact hb.2.1 hn
      · have := hb.1.2; omega, (if_neg (by have := hb.1.2; omega)).trans hb.2.2⟩) (K.but k1 (fun b hb _ => hb.2.1) hW hK)
  · have hi : i = 0 := by
      have := (List.getElem?_eq_some_iff.1 q1).1
      simp at this; exact this
    subst hi
    have hK := g1.2 0 w cs q1 q2
    have h3 : K.rd W H (fun b => B ≤ b ∧ b < H.bd) w cs := K.okk (fun b hb hlt => ⟨hb, hlt⟩) hK
    exact K.okk (fun b hb _ => ⟨.inr hb.1, fun e => by
      rcases (k2.blk b e).1 with hn | hn
      · have := hlo b hn; have := hb.1; omega
      · have := hb.2; omega, if_pos hb.1⟩) (K.but k1 (fun b hb _ e => by have := hlo b e; have := hb.1; omega) hW h3)
  · rw [List.length_append, List.flatten_append]
    exact k2.ok (fun b hb _ => by
      rcases hb with hb | hb
      · exact .inl (h2.blk b hb).1.1
      · exact .inr (by omega))
end
end Go.Proofs.YteajnanbfkcdcaaDoor.VC
