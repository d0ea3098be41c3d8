/- What is known of a call while it runs: what slots hold, and what blocks of memory hold; the rules by which code goes on from it. -/
import Derived.Below
import Derived.Tactics
import Derived.Maps.AppendAt
import Derived.OwnWalk
import Derived.Laws.Rows
import Derived.Laws.Slices
import Derived.Laws.MakeOwn
import Derived.Laws.CopyRow
import Derived.Orders
set_option linter.unusedVariables false
set_option linter.unusedSimpArgs false
namespace Go.Proofs.YteajnanbfkcdcaaDoor.VC
open Go Go.RowKit

/-! ### 1. What slots hold -/
def geti : List (Nat × Value) → Nat → Option Value
  | [], _ => none
  | (k, v) :: E, t => bif Nat.beq k t then some v else geti E t
def evl (E : List (Nat × Value)) : Operand → Option Value
  | .tmp t => geti E t
  | .const v => some v
  | .global g => some (.pointer (some ⟨g, 0, none⟩))
  | .func f => some (.func (.func f) #[] #[])
/-- All that the first says, the second says. -/
def sub : List (Nat × Value) → List (Nat × Value) → Prop
  | [], _ => True
  | (k, v) :: E, F => geti F k = some v ∧ sub E F
theorem sub_get {E F : List (Nat × Value)} (h : sub E F) : ∀ t v, geti E t = some v → geti F t = some v := by
  induction E with
  | nil => intro t v ht; cases ht
  | cons x E ih =>
    obtain ⟨k, u⟩ := x
    intro t v ht
    simp only [geti] at ht
    cases hk : Nat.beq k t with
    | true =>
      rw [hk] at ht
      simp only [cond_true, Option.some.injEq] at ht
      subst ht
      rw [← Nat.eq_of_beq_eq_true hk]
      exact h.1
    | false =>
      rw [hk] at ht
      exact ih h.2 t v ht
structure SatE (N : Nat) (E : List (Nat × Value)) (a : Act) : Prop where
  size : a.tmps.size = N
  defers : a.defers = []
  get : ∀ t v, geti E t = some v → a.tmps[t]? = some v
theorem SatE.le {N : Nat} {E F : List (Nat × Value)} {a : Act} (h : SatE N F a) (hs : sub E F) : SatE N E a := ⟨h.size, h.defers, fun t v ht => h.get t v (sub_get hs t v ht)⟩
theorem SatE.ev {N : Nat} {E : List (Nat × Value)} {a : Act} (h : SatE N E a) {x : Operand} {v : Value} (hx : evl E x = some v) : a.eval x = v := by
  cases x with
  | tmp t => show a.tmps.getD t undef = v; have := h.get t v hx; simp [Array.getD_eq_getD_getElem?, this]
  | const u => cases hx; rfl
  | global g => cases hx; rfl
  | func f => cases hx; rfl
theorem SatE.put {N : Nat} {E : List (Nat × Value)} {a : Act} (h : SatE N E a) {d : Nat} (hd : Nat.ble (d + 1) N = true) (v : Value) : SatE N ((d, v) :: E) (a.put (some d) v) := by
  refine ⟨by simp [Act.put, h.size], h.defers, fun t u ht => ?_⟩
  have hlt : d < a.tmps.size := by rw [h.size]; exact Nat.le_of_ble_eq_true hd
  simp only [geti] at ht
  show (a.tmps.setIfInBounds d v)[t]? = some u
  cases hk : Nat.beq d t with
  | true =>
    have := Nat.eq_of_beq_eq_true hk
    subst this
    rw [hk] at ht
    simp only [cond_true, Option.some.injEq] at ht
    subst ht
    simp [hlt]
  | false =>
    rw [hk] at ht
    have hne : d ≠ t := fun e => by subst e; simp at hk
    rw [Array.getElem?_setIfInBounds_ne hne]
    exact h.get t u ht

/-! ### 2. What blocks hold -/
structure Blk where
  elem : TypeId
  pre : List Value
  cap : Nat
structure Hp where
  m : Nat → Option Blk
  bd : Nat
  lt : ∀ b x, m b = some x → b < bd
/-- All that the first heap knows, the second knows, but of blocks that are 'out'. -/
structure But (out : Nat → Prop) (H H' : Hp) : Prop where
  bd : H.bd ≤ H'.bd
  m : ∀ b x, H.m b = some x → ¬ out b → H'.m b = some x
def Ext (H H' : Hp) : Prop := But (fun _ => False) H H'
theorem But.refl (out : Nat → Prop) (H : Hp) : But out H H := ⟨Nat.le_refl _, fun _ _ h _ => h⟩
theorem Ext.refl (H : Hp) : Ext H H := But.refl _ H
theorem Ext.get {H H' : Hp} (h : Ext H H') {b : Nat} {x : Blk} (hb : H.m b = some x) : H'.m b = some x := h.m b x hb (fun f => f)
theorem Ext.but {H H' : Hp} (h : Ext H H') (out : Nat → Prop) : But out H H' := ⟨h.bd, fun b x hb _ => h.get hb⟩
theorem But.trans {out : Nat → Prop} {H H' H'' : Hp} (h : But out H H') (k : But out H' H'') : But out H H'' := ⟨Nat.le_trans h.bd k.bd, fun b x hb ho => k.m b x (h.m b x hb ho) ho⟩
theorem But.thru {out out2 : Nat → Prop} {H H' H'' : Hp} (h : But out H H') (k : But out2 H' H'') (ho : ∀ b, out2 b → H.bd ≤ b) : But out H H'' := ⟨Nat.le_trans h.bd k.bd, fun b x hb hn => k.m b x (h.m b x hb hn) (fun q => by have := ho b q; have := H.lt b x hb; omega)⟩
theorem Ext.trans {H H' H'' : Hp} (h : Ext H H') (k : Ext H' H'') : Ext H H'' := But.trans h k
theorem But.mono {out out' : Nat → Prop} {H H' : Hp} (h : But out H H') (ho : ∀ b, out b → out' b) : But out' H H' := ⟨h.bd, fun b x hb hn => h.m b x hb (fun k => hn (ho b k))⟩
/-- What is out was not there before. -/
theorem But.ext {out : Nat → Prop} {H H' : Hp} (h : But out H H') (ho : ∀ b, out b → H.bd ≤ b) : Ext H H' := ⟨h.bd, fun b x hb _ => h.m b x hb (fun k => by have := ho b k; have := H.lt b x hb; omega)⟩
theorem But.only {out : Nat → Prop} {H H' : Hp} (h : But out H H') : But (fun b => out b ∧ b < H.bd) H H' := ⟨h.bd, fun b x hb hn => h.m b x hb (fun k => hn ⟨k, H.lt b x hb⟩)⟩
def Hp.put (H : Hp) (b : Nat) (x : Blk) : Hp where
  m := fun k => if k = b then some x else H.m k
  bd := max H.bd (b + 1)
  lt := fun k y h => by
    split at h
    · omega
    · have := H.lt k y h; omega
theorem Hp.put_self (H : Hp) (b : Nat) (x : Blk) : (H.put b x).m b = some x := by simp [Hp.put]
theorem Hp.put_but (H : Hp) (b : Nat) (x : Blk) : But (fun k => k = b) H (H.put b x) := ⟨Nat.le_max_left _ _, fun k y hk hn => by simp [Hp.put, hn, hk]⟩
theorem Hp.put_ext (H : Hp) {b : Nat} (x : Blk) (h : H.bd ≤ b) : Ext H (H.put b x) := (H.put_but b x).ext (fun k hk => by omega)
theorem Hp.put_bd (H : Hp) (b : Nat) (x : Blk) : b < (H.put b x).bd := by simp only [Hp.put]; omega

variable {P : Program} {W : World} {N : Nat}
/-- A world is what is known of it; what was there when all began is as it was. -/
structure SatH (W : World) (H : Hp) (w : World) : Prop where
  below : Below W.heap.size W w
  bd : H.bd ≤ w.heap.size
  own : ∀ b x, H.m b = some x → W.heap.size ≤ b ∧ ∃ cur, w.heap[b]? = some (.cells cur x.elem (0, 0)) ∧ cur.size = x.cap ∧ cur.toList.take x.pre.length = x.pre
/-- A cell. -/
def rdc (W : World) (H : Hp) (p : Addr) : Option Value :=
  if p.spot.isSome then none else if p.block < W.heap.size then W.cell? p else match H.m p.block with
    | some x => x.pre[p.off]?
    | none => none
theorem SatH.cell {H : Hp} {w : World} (h : SatH W H w) {p : Addr} {v : Value} (hp : rdc W H p = some v) : w.cell? p = some v := by
  unfold rdc at hp
  split at hp
  · cases hp
  · rename_i hs
    split at hp
    · rename_i hlt
      rw [h.below.cell hlt]; exact hp
    · split at hp
      · rename_i x hx
        obtain ⟨_, cur, hc, hl, ht⟩ := h.own _ _ hx
        simp only [World.cell?, hc, hs]
        rw [← ht] at hp
        rw [List.getElem?_take] at hp
        split at hp
        · simpa using hp
        · cases hp
      · cases hp
theorem rdc_but {out : Nat → Prop} {H H' : Hp} (h : But out H H') {p : Addr} {v : Value} (hp : rdc W H p = some v) (ho : ¬ out p.block) : rdc W H' p = some v := by
  unfold rdc at hp ⊢
  split at hp
  · cases hp
  · rename_i hs
    simp only [hs, Bool.false_eq_true, if_false]
    split at hp
    · rename_i hlt
      simp only [hlt, if_true]; exact hp
    · rename_i hlt
      simp only [hlt, if_false]
      split at hp
      · rename_i x hx
        rw [h.m _ _ hx ho]; exact hp
      · cases hp
theorem rdc_ext {H H' : Hp} (h : Ext H H') {p : Addr} {v : Value} (hp : rdc W H p = some v) : rdc W H' p = some v := rdc_but h hp (fun f => f)
theorem SatH.le {H H' : Hp} {w : World} (h : SatH W H' w) (hle : Ext H H') : SatH W H w := ⟨h.below, Nat.le_trans hle.bd h.bd, fun b x hb => h.own b x (hle.get hb)⟩
theorem SatH.drew {H : Hp} {w : World} (h : SatH W H w) : SatH W H { w with drawn := w.drawn + 1 } := ⟨h.below.drew, h.bd, h.own⟩
/-- A new block. -/
theorem SatH.alloc {H : Hp} {w : World} (h : SatH W H w) (cs : List Value) (T : TypeId) :
    SatH W (H.put w.heap.size ⟨T, cs, cs.length⟩) (w.alloc (.cells cs.toArray T)) := by
  refine ⟨h.below.alloc h.below.size _, ?_, fun b x hb => ?_⟩
  · have := h.bd; simp only [Hp.put, World.size_alloc]; omega
  · simp only [Hp.put] at hb
    split at hb
    · rename_i e
      injection hb with hb
      subst hb
      subst e
      exact ⟨h.below.size, cs.toArray, heap_alloc_new w _, by simp, by simp⟩
    · obtain ⟨h1, cur, h2, h3⟩ := h.own b x hb
      exact ⟨h1, cur, (heap_alloc_old w _ b (Array.getElem?_eq_some_iff.1 h2).1).trans h2, h3⟩
/-- A block of the call's own is written. -/
theorem SatH.set {H : Hp} {w : World} (h : SatH W H w) {b : Nat} {x : Blk} (hb : H.m b = some x) {w' : World} (hk : Below W.heap.size W w') (hs : w'.heap.size = w.heap.size) (ho : ∀ k, k ≠ b → w'.heap[k]? = w.heap[k]?)
    {y : Blk} {cur : Array Value} (hc : w'.heap[b]? = some (.cells cur y.elem (0, 0))) (hl : cur.size = y.cap) (ht : cur.toList.take y.pre.length = y.pre) : SatH W (H.put b y) w' := by
  refine ⟨hk, ?_, fun k z hz => ?_⟩
  · have := h.bd
    have h2 := (Array.getElem?_eq_some_iff.1 hc).1
    simp only [Hp.put]; omega
  · simp only [Hp.put] at hz
    split at hz
    · rename_i e
      injection hz with hz
      subst hz
      subst e
      exact ⟨(h.own _ _ hb).1, cur, hc, hl, ht⟩
    · rename_i hne
      obtain ⟨h1, cur', h2, h3⟩ := h.own k z hz
      exact ⟨h1, cur', (ho k hne).trans h2, h3⟩

/-! ### 3. Code -/
def QQ (W : World) (N : Nat) (Q : Exit → List (Nat × Value) → Hp → Prop) : Exit → Act → World → Prop := fun e a w => ∃ E H, SatE N E a ∧ SatH W H w ∧ Q e E H
def AW (P : Program) (W : World) (N : Nat) (c : Code) (Q : Exit → List (Nat × Value) → Hp → Prop) (E : List (Nat × Value)) (H : Hp) : Prop :=
  ∀ a w, SatE N E a → SatH W H w → c.wp P (QQ W N Q) a w
def AL (P : Program) (W : World) (N : Nat) (ops : Array Oper) (Q : Exit → List (Nat × Value) → Hp → Prop) (l : List Oper) (E : List (Nat × Value)) (H : Hp) : Prop :=
  ∀ a w, SatE N E a → SatH W H w → wpList P ops (QQ W N Q) l a w
def ACalls (P : Program) (W : World) (f : FuncId) (args : Array Value) (H : Hp) (R : Value → Hp → Prop) : Prop :=
  ∀ w, SatH W H w → Calls P f args w fun e w' => ∃ v H', e = .returned v ∧ SatH W H' w' ∧ R v H'
variable {Q Q' : Exit → List (Nat × Value) → Hp → Prop} {E F : List (Nat × Value)} {H : Hp}
theorem ACalls.mono {f : FuncId} {args : Array Value} {R R' : Value → Hp → Prop} (h : ACalls P W f args H R) (hr : ∀ v H', R v H' → R' v H') : ACalls P W f args H R' :=
  fun w hw => Calls.mono (h w hw) fun _ _ ⟨v, H', e, s, r⟩ => ⟨v, H', e, s, hr v H' r⟩
theorem AW.mono {c : Code} (h : AW P W N c Q E H) (hq : ∀ e E H, Q e E H → Q' e E H) : AW P W N c Q' E H :=
  fun a w ha hw => Code.wp_mono (fun e a w ⟨E, H, h1, h2, q⟩ => ⟨E, H, h1, h2, hq e E H q⟩) (h a w ha hw)
theorem AW.le {c : Code} {H' : Hp} (h : AW P W N c Q E H) (hs : sub E F) (hh : Ext H H') : AW P W N c Q F H' := fun a w ha hw => h a w (ha.le hs) (hw.le hh)
def andThen (K : List (Nat × Value) → Hp → Prop) (Q : Exit → List (Nat × Value) → Hp → Prop) : Exit → List (Nat × Value) → Hp → Prop
  | .normal, E, H => K E H
  | e, E, H => Q e E H
def inBlk (id : Nat) (Q : Exit → List (Nat × Value) → Hp → Prop) : Exit → List (Nat × Value) → Hp → Prop
  | .exit id', E, H => if id' = id then Q .normal E H else Q (.exit id') E H
  | e, E, H => Q e E H
theorem AW.seq {x y : Code} (h : AW P W N x (andThen (AW P W N y Q) Q) E H) : AW P W N (.seq x y) Q E H := fun a w ha hw =>
  wp_seq (Code.wp_mono (fun e a w ⟨E, H, h1, h2, q⟩ => by
    cases e with
    | normal => exact q a w h1 h2
    | _ => exact ⟨E, H, h1, h2, q⟩) (h a w ha hw))
/-- What stands between the two: said once. -/
theorem AW.cut {x y : Code} (K : List (Nat × Value) → Hp → Prop) (h : AW P W N x (andThen K Q) E H) (k : ∀ E H, K E H → AW P W N y Q E H) : AW P W N (.seq x y) Q E H :=
  AW.seq (h.mono fun e E H q => by
    cases e with
    | normal => exact k E H q
    | _ => exact q)
theorem AW.skip (h : Q .normal E H) : AW P W N .skip Q E H := fun a w ha hw => wp_skip ⟨E, H, ha, hw, h⟩
theorem AW.exit {id : Nat} (h : Q (.exit id) E H) : AW P W N (.exit id) Q E H := fun a w ha hw => wp_exit ⟨E, H, ha, hw, h⟩
theorem AW.ret (h : Q .ret E H) : AW P W N .ret Q E H := fun a w ha hw => wp_ret ⟨E, H, ha, hw, h⟩
theorem AW.block {id : Nat} {c : Code} (h : AW P W N c (inBlk id Q) E H) : AW P W N (.block id c) Q E H := fun a w ha hw =>
  wp_block (Code.wp_mono (fun e a w ⟨E, H, h1, h2, q⟩ => by
    cases e with
    | exit id' =>
      simp only [Exit.inBlock]
      simp only [inBlk] at q
      split
      · rename_i hid
        rw [if_pos hid] at q
        exact ⟨E, H, h1, h2, q⟩
      · rename_i hid
        rw [if_neg hid] at q
        exact ⟨E, H, h1, h2, q⟩
    | _ => exact ⟨E, H, h1, h2, q⟩) (h a w ha hw))
theorem AW.cond {c : Operand} {x y : Code} {t : Bool} (hc : evl E c = some (.bool t)) (ht : t = true → AW P W N x Q E H) (hf : t = false → AW P W N y Q E H) : AW P W N (.cond c x y) Q E H :=
  fun a w ha hw => wp_cond_split (ha.ev hc) (fun h => ht h a w ha hw) (fun h => hf h a w ha hw)
theorem AW.ifd {c : Operand} {x y : Code} {p : Prop} [Decidable p] (hc : evl E c = some (.bool (decide p))) (ht : p → AW P W N x Q E H) (hf : ¬ p → AW P W N y Q E H) : AW P W N (.cond c x y) Q E H :=
  AW.cond hc (fun h => ht (of_decide_eq_true h)) (fun h => hf (of_decide_eq_false h))
theorem AW.ifn {c : Operand} {x y : Code} {p : Prop} [Decidable p] (hc : evl E c = some (.bool (!decide p))) (ht : ¬ p → AW P W N x Q E H) (hf : p → AW P W N y Q E H) : AW P W N (.cond c x y) Q E H :=
  AW.cond hc (fun h => ht (fun k => by rw [decide_eq_true k] at h; cases h)) (fun h => hf (Decidable.byContradiction fun k => by rw [decide_eq_false k] at h; cases h))
theorem AW.loop {σ : Type} {c : Code} (EI : σ → List (Nat × Value)) (inv : σ → Hp → Prop) (μ : σ → Nat) (s0 : σ) (h0 : inv s0 H) (hE : sub (EI s0) E)
    (round : ∀ s H, inv s H → AW P W N c (andThen (fun E' H' => ∃ s', inv s' H' ∧ μ s' < μ s ∧ sub (EI s') E') Q) (EI s) H) : AW P W N (.loop c) Q E H := fun a w ha hw => by
  -- the least measure of the states that fit
  let I : Act → World → Prop := fun a w => ∃ s H, SatE N (EI s) a ∧ SatH W H w ∧ inv s H
  have key : ∀ n s H a w, μ s = n → SatE N (EI s) a → SatH W H w → inv s H → ∀ (b : Frame) (k : List Item) (cs : List Frame),
      ∃ e a' w', QQ W N Q e a' w' ∧ Arrives P (lone (b.at a (.code c :: .inLoop c :: k)) cs w) b k cs e a' w' := by
    intro n
    induction n using Nat.strongRecOn with
    | _ n ih =>
      intro s H a w hn h1 h2 h3 b k cs
      obtain ⟨e, a₁, w₁, hq, harr⟩ := round s H h3 a w h1 h2 b (.inLoop c :: k) cs
      obtain ⟨E1, H1, g1, g2, q⟩ := hq
      cases e with
      | normal =>
        obtain ⟨s', i1, i2, i3⟩ := q
        obtain ⟨e₂, a₂, w₂, hq₂, harr₂⟩ := ih (μ s') (hn ▸ i2) s' H1 a₁ w₁ rfl (g1.le i3) g2 i1 b k cs
        exact ⟨e₂, a₂, w₂, hq₂, .of_steps (Steps.trans harr (.one step_inLoop)) harr₂⟩
      | exit id => exact ⟨_, a₁, w₁, ⟨E1, H1, g1, g2, q⟩, .pass (x := .inLoop c) rfl (fun _ _ => .inl (by simp)) harr⟩
      | goto l => exact ⟨_, a₁, w₁, ⟨E1, H1, g1, g2, q⟩, .pass (x := .inLoop c) rfl (fun _ _ => .inl (by simp)) harr⟩
      | ret => exact ⟨_, a₁, w₁, ⟨E1, H1, g1, g2, q⟩, .pass (x := .inLoop c) rfl (fun _ _ => .inl (by simp)) harr⟩
      | panic ch => exact ⟨_, a₁, w₁, ⟨E1, H1, g1, g2, q⟩, .pass (x := .inLoop c) rfl (fun _ _ => .inl (by simp)) harr⟩
      | outgrown => exact ⟨_, a₁, w₁, ⟨E1, H1, g1, g2, q⟩, .pass (x := .inLoop c) rfl (fun _ _ => .inl (by simp)) harr⟩
  intro b k cs
  obtain ⟨e, a', w', q, arr⟩ := key (μ s0) s0 H a w rfl (ha.le hE) hw h0 b k cs
  exact ⟨e, a', w', q, .of_steps (.one step_loop) arr⟩
theorem AW.reg {id : Nat} {l : List Oper} (h : AL P W N l.toArray Q l E H) : AW P W N (.region id l.toArray false) Q E H := fun a w ha hw => wp_region_lit (h a w ha hw)
theorem AL.nil {ops : Array Oper} (h : Q .normal E H) : AL P W N ops Q [] E H := fun a w ha hw => ⟨E, H, ha, hw, h⟩

theorem AW.rs {id : Nat} {l : List Oper} {y : Code} (h : AL P W N l.toArray (andThen (AW P W N y Q) Q) l E H) : AW P W N (.seq (.region id l.toArray false) y) Q E H := AW.seq (AW.reg h)
theorem AL.nx {ops : Array Oper} {y : Code} (h : AW P W N y Q E H) : AL P W N ops (andThen (AW P W N y Q) Q) [] E H := AL.nil h
theorem nrm_and {K : List (Nat × Value) → Hp → Prop} (h : K E H) : andThen K Q .normal E H := h
theorem ex_and {K : List (Nat × Value) → Hp → Prop} {i : Nat} (h : Q (.exit i) E H) : andThen K Q (.exit i) E H := h
theorem ret_and {K : List (Nat × Value) → Hp → Prop} (h : Q .ret E H) : andThen K Q .ret E H := h
theorem nrm_blk {i : Nat} (h : Q .normal E H) : inBlk i Q .normal E H := h
theorem ret_blk {i : Nat} (h : Q .ret E H) : inBlk i Q .ret E H := h
theorem ex_blk {i : Nat} (h : Q .normal E H) : inBlk i Q (.exit i) E H := by simp only [inBlk, if_true]; exact h
theorem ex_out {i j : Nat} (hn : Nat.beq i j = false) (h : Q (.exit i) E H) : inBlk j Q (.exit i) E H := by
  have : ¬ i = j := fun e => by subst e; simp at hn
  simp only [inBlk, if_neg this]; exact h
/-- The post of a body: the results' slots. -/
def resOf (W : World) (H : Hp) (P : Program) (E : List (Nat × Value)) : ResultVar → Value → Prop
  | .tmp t, v => geti E t = some v
  | .cell t ty, v => ∃ p, geti E t = some (.pointer (some p)) ∧ ∀ w, SatH W H w → (loadVar ty p).run P w = .ok v w
def post (W : World) (P : Program) (fn : Func) (R : Value → Hp → Prop) : Exit → List (Nat × Value) → Hp → Prop := fun e E H =>
  (e = .normal ∨ e = .ret) ∧ ∃ v, (∀ a w, SatE fn.ntmps E a → SatH W H w → (results fn a.tmps).run P w = .ok v w) ∧ R v H
theorem post_none {fn : Func} {R : Value → Hp → Prop} (hr : fn.results = #[]) (h : R (.tuple #[]) H) {e : Exit} (he : e = .normal ∨ e = .ret) : post W P fn R e E H :=
  ⟨he, _, fun a w ha hw => results_none hr _ _ _, h⟩
theorem post_one {fn : Func} {R : Value → Hp → Prop} {t : Nat} (hr : fn.results = #[.tmp t]) {v : Value} (hv : geti E t = some v) (h : R v H) {e : Exit} (he : e = .normal ∨ e = .ret) : post W P fn R e E H :=
  ⟨he, v, fun a w ha hw => by rw [results_tmp hr, show a.tmps.getD t undef = v from ha.ev (x := .tmp t) hv], h⟩
theorem post_two {fn : Func} {R : Value → Hp → Prop} {t u : Nat} (hr : fn.results = #[.tmp t, .tmp u]) {v z : Value} (hv : geti E t = some v) (hz : geti E u = some z) (h : R (.tuple #[v, z]) H) {e : Exit} (he : e = .normal ∨ e = .ret) : post W P fn R e E H :=
  ⟨he, _, fun a w ha hw => by rw [results_tmp2 hr, show a.tmps.getD t undef = v from ha.ev (x := .tmp t) hv, show a.tmps.getD u undef = z from ha.ev (x := .tmp u) hz], h⟩
theorem post_three {fn : Func} {R : Value → Hp → Prop} {t u s : Nat} (hr : fn.results = #[.tmp t, .tmp u, .tmp s]) {v z y : Value} (hv : geti E t = some v) (hz : geti E u = some z) (hy : geti E s = some y) (h : R (.tuple #[v, z, y]) H) {e : Exit} (he : e = .normal ∨ e = .ret) : post W P fn R e E H :=
  ⟨he, _, fun a w ha hw => by rw [results_tmp3 hr, show a.tmps.getD t undef = v from ha.ev (x := .tmp t) hv, show a.tmps.getD u undef = z from ha.ev (x := .tmp u) hz, show a.tmps.getD s undef = y from ha.ev (x := .tmp s) hy], h⟩
def envOf : List Value → Nat → List (Nat × Value)
  | [], _ => []
  | v :: vs, i => (i, v) :: envOf vs (i + 1)
theorem geti_envOf : ∀ (vs : List Value) (i t : Nat) (v : Value), geti (envOf vs i) t = some v → i ≤ t ∧ vs[t - i]? = some v
  | [], i, t, v, h => by cases h
  | u :: vs, i, t, v, h => by
    simp only [envOf, geti] at h
    cases hk : Nat.beq i t with
    | true =>
      have := Nat.eq_of_beq_eq_true hk
      subst this
      rw [hk] at h
      simp only [cond_true, Option.some.injEq] at h
      subst h
      simp
    | false =>
      rw [hk] at h
      have hne : i ≠ t := fun e => by subst e; simp at hk
      obtain ⟨h1, h2⟩ := geti_envOf vs (i + 1) t v h
      refine ⟨by omega, ?_⟩
      rw [show t - i = (t - (i + 1)) + 1 by omega]
      exact h2
theorem ACalls.of {f : FuncId} {fn : Func} {c : Code} {args : List Value} {R : Value → Hp → Prop} (hf : P.funcs[f]? = some fn) (hb : fn.body = some c) (hn : Nat.ble args.length fn.ntmps = true)
    (h : AW P W fn.ntmps c (post W P fn R) (envOf args 0) H) : ACalls P W f args.toArray H R := fun w hw => by
  refine calls_of_wp hf hb ?_
  have hn' := Nat.le_of_ble_eq_true hn
  have hs : SatE fn.ntmps (envOf args 0) { tmps := args.toArray ++ Array.replicate (fn.ntmps - args.toArray.size) undef, defers := [] } := by
    refine ⟨by simp; omega, rfl, fun t v ht => ?_⟩
    obtain ⟨_, h2⟩ := geti_envOf args 0 t v ht
    simp only [Nat.sub_zero] at h2
    have hlt := (List.getElem?_eq_some_iff.1 h2).1
    have h3 := (List.getElem?_eq_some_iff.1 h2).2
    simp [Array.getElem?_append, hlt, h3]
  refine Code.wp_mono (fun e a w' q => ?_) (h _ w hs hw)
  obtain ⟨E, H', g1, g2, he, v, hv, hR⟩ := q
  rcases he with rfl | rfl
  · exact ⟨g1.defers, v, hv a w' g1 g2, v, H', rfl, g2, hR⟩
  · exact ⟨g1.defers, v, hv a w' g1 g2, v, H', rfl, g2, hR⟩
end Go.Proofs.YteajnanbfkcdcaaDoor.VC
