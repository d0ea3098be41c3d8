/- The rules of the operations: what is known behind each, given what was known ahead of it. -/
import Derived.Test.YteajnanbfkcdcaaDoorVA
import Derived.Laws.Tables
import Derived.Laws.Bits
import Derived.Laws.Small
import Derived.Great.BuildSlice
import Derived.Shelf.Abstract
import Derived.Laws.CopyRow
set_option linter.unusedVariables false
set_option linter.unusedSimpArgs false
namespace Go.Proofs.YteajnanbfkcdcaaDoor.VC
open Go Go.RowKit

/-! ### 1. Facts on the program's types -/
structure SlT (P : Program) (t e : TypeId) (z : Value) (sz bytes : Nat) : Prop where
  u : P.underlying t = some (.slice e)
  i : ∃ i, P.info? e = some i ∧ i.zero = some z ∧ i.size = sz ∧ i.bytes = bytes
  c : z.cells.size = sz
  p : 0 < sz
def aggD : TypeDesc → Bool
  | .struct _ | .array _ _ => true
  | _ => false
structure VarT (P : Program) (t : TypeId) (agg : Bool) (n : Nat) : Prop where
  u : ∃ d, P.underlying t = some d ∧ aggD d = agg
  i : ∃ i, P.info? t = some i ∧ i.size = n
structure ZeroT (P : Program) (t : TypeId) (z : Value) (n : Nat) : Prop where
  i : ∃ i, P.info? t = some i ∧ i.zero = some z ∧ i.size = n
  c : z.cells.size = n
structure FldT (P : Program) (s f off n : Nat) : Prop where
  u : ∃ fs fd, P.underlying s = some (.struct fs) ∧ fs[f]? = some fd ∧ fd.offset = off ∧ (∃ i, P.info? fd.type = some i ∧ i.size = n)
  p : 0 < n
structure FnT (P : Program) (f : FuncId) : Prop where
  call : ∀ args w, (callFunc f args).run P w = .ok (.enter f args) w

variable {P : Program} {W : World} {N : Nat} {Q : Exit → List (Nat × Value) → Hp → Prop} {E : List (Nat × Value)} {H : Hp} {ops : Array Oper} {rest : List Oper} {o : Oper}
/-! ### 2. One operation -/
def Wants (ops : Array Oper) (E : List (Nat × Value)) (o : Oper) : Prop := o.guard = none ∨ ∃ j b t, o.guard = some (j, b) ∧ (ops[j]?).bind (·.dst) = some t ∧ geti E t = some (.bool b)
theorem Wants.wanted (h : Wants ops E o) {a : Act} (ha : SatE N E a) : Region.wanted o (yielded ops a.tmps) = true := by
  rcases h with h | ⟨j, b, t, h1, h2, h3⟩
  · simp [Region.wanted, h]
  · simp [Region.wanted, h1, yielded, h2, ha.get t _ h3]
/-- What it yields, the world being as it was. -/
def HV (P : Program) (W : World) (N : Nat) (E : List (Nat × Value)) (H : Hp) (o : Oper) (v : Value) : Prop := ∀ a w, SatE N E a → SatH W H w → (execOp a.eval o).run P w = .ok (.value v) w
theorem AL.core (hg : Wants ops E o) (h : ∀ a w, SatE N E a → SatH W H w → ∀ K : Act → World → Prop, (∀ a' w' E' H', SatE N E' a' → SatH W H' w' → AL P W N ops Q rest E' H' → K a' w') → o.wp P a w K (QQ W N Q)) : AL P W N ops Q (o :: rest) E H := fun a w ha hw => by
  refine wpList_step fun K hK => ?_
  rw [if_pos (hg.wanted ha)]
  exact h a w ha hw K fun a' w' E' H' h1 h2 h3 => hK _ _ (h3 a' w' h1 h2)
/-- An operation that isn't wanted. -/
theorem AL.off {d : Nat} {op : Op} {ty : TypeId} {pos : String} {af : Array Edge} {j : Nat} {b c : Bool} {t : Nat} (h2 : (ops[j]?).bind (·.dst) = some t) (h3 : geti E t = some (.bool c)) (hne : c ≠ b) (hd : Nat.ble (d + 1) N = true)
    (h : AL P W N ops Q rest ((d, undef) :: E) H) : AL P W N ops Q (⟨some d, op, ty, pos, af, some (j, b)⟩ :: rest) E H := fun a w ha hw => by
  refine wpList_step fun K hK => ?_
  have : Region.wanted ⟨some d, op, ty, pos, af, some (j, b)⟩ (yielded ops a.tmps) = false := by
    simp only [Region.wanted, yielded, h2, Option.bind_some, ha.get t _ h3]
    cases b <;> cases c <;> first | rfl | exact absurd rfl hne
  rw [this]
  simp only [Bool.false_eq_true, if_false]
  exact hK _ _ (h _ w (ha.put hd _) hw)
theorem AL.offu {d : Nat} {op : Op} {ty : TypeId} {pos : String} {af : Array Edge} {j : Nat} {b : Bool} {t : Nat} (h2 : (ops[j]?).bind (·.dst) = some t) (h3 : geti E t = some undef) (hd : Nat.ble (d + 1) N = true)
    (h : AL P W N ops Q rest ((d, undef) :: E) H) : AL P W N ops Q (⟨some d, op, ty, pos, af, some (j, b)⟩ :: rest) E H := fun a w ha hw => by
  refine wpList_step fun K hK => ?_
  have : Region.wanted ⟨some d, op, ty, pos, af, some (j, b)⟩ (yielded ops a.tmps) = false := by
    simp only [Region.wanted, yielded, h2, Option.bind_some, ha.get t _ h3]
    cases b <;> rfl
  rw [this]
  simp only [Bool.false_eq_true, if_false]
  exact hK _ _ (h _ w (ha.put hd _) hw)
section
variable {d : Nat} {ty : TypeId} {pos : String} {af : Array Edge} {gd : Option (Nat × Bool)} {op : Op}
theorem AL.val {v : Value} (hd : Nat.ble (d + 1) N = true) (hg : Wants ops E ⟨some d, op, ty, pos, af, gd⟩) (hv : HV P W N E H ⟨some d, op, ty, pos, af, gd⟩ v)
    (h : AL P W N ops Q rest ((d, v) :: E) H) : AL P W N ops Q (⟨some d, op, ty, pos, af, gd⟩ :: rest) E H :=
  AL.core hg fun a w ha hw K hK => by
    unfold Oper.wp
    rw [hv a w ha hw]
    exact hK _ _ _ _ (ha.put hd v) hw h
/-- The world turns, too. -/
def WV (P : Program) (W : World) (N : Nat) (E : List (Nat × Value)) (H : Hp) (o : Oper) (Po : Value → Hp → Prop) : Prop := ∀ a w, SatE N E a → SatH W H w → (match (execOp a.eval o).run P w with
    | .ok (.value v) w' => ∃ H', SatH W H' w' ∧ Po v H'
    | .ok .skip w' => ∃ H', SatH W H' w' ∧ Po undef H'
    | .ok (.enter f args) w' => Calls P f args w' (fun e w'' => ∃ v H', e = .returned v ∧ SatH W H' w'' ∧ Po v H')
    | _ => False)
theorem AL.w' {dst : Option Nat} {Po : Value → Hp → Prop} (hd : ∀ d, dst = some d → Nat.ble (d + 1) N = true) (hg : Wants ops E ⟨dst, op, ty, pos, af, gd⟩) (hv : WV P W N E H ⟨dst, op, ty, pos, af, gd⟩ Po)
    (h : ∀ v H', Po v H' → AL P W N ops Q rest (match dst with | some d => (d, v) :: E | none => E) H') : AL P W N ops Q (⟨dst, op, ty, pos, af, gd⟩ :: rest) E H :=
  AL.core hg fun a w ha hw K hK => by
    have hm := hv a w ha hw
    have fin : ∀ v H' w', SatH W H' w' → Po v H' → K (a.put dst v) w' := fun v H' w' h1 h2 => by
      have := h v H' h2
      cases dst with
      | none => exact hK _ _ _ _ ha h1 this
      | some d => exact hK _ _ _ _ (ha.put (hd d rfl) v) h1 this
    unfold Oper.wp
    revert hm
    cases (execOp a.eval ⟨dst, op, ty, pos, af, gd⟩).run P w with
    | halt x w' => exact fun hm => hm.elim
    | ok n w' =>
      cases n with
      | value v => exact fun ⟨H', h1, h2⟩ => fin v H' w' h1 h2
      | skip => exact fun ⟨H', h1, h2⟩ => fin _ H' w' h1 h2
      | enter f args =>
        intro hm
        refine Calls.mono hm fun e w'' ⟨v, H', h0, h1, h2⟩ => ?_
        subst h0
        exact fin v H' w'' h1 h2
      | _ => exact fun hm => hm.elim
theorem AL.w {Po : Value → Hp → Prop} (hd : Nat.ble (d + 1) N = true) (hg : Wants ops E ⟨some d, op, ty, pos, af, gd⟩) (hv : WV P W N E H ⟨some d, op, ty, pos, af, gd⟩ Po)
    (h : ∀ v H', Po v H' → AL P W N ops Q rest ((d, v) :: E) H') : AL P W N ops Q (⟨some d, op, ty, pos, af, gd⟩ :: rest) E H := AL.w' (fun _ h => by cases h; exact hd) hg hv h
theorem AL.w0 {Po : Value → Hp → Prop} (hg : Wants ops E ⟨none, op, ty, pos, af, gd⟩) (hv : WV P W N E H ⟨none, op, ty, pos, af, gd⟩ Po)
    (h : ∀ v H', Po v H' → AL P W N ops Q rest E H') : AL P W N ops Q (⟨none, op, ty, pos, af, gd⟩ :: rest) E H := AL.w' (fun _ h => by cases h) hg hv h
theorem WV.of {o : Oper} {Po : Value → Hp → Prop} (hv : ∀ a w, SatE N E a → SatH W H w → ∃ v w' H', (execOp a.eval o).run P w = .ok (.value v) w' ∧ SatH W H' w' ∧ Po v H') : WV P W N E H o Po := fun a w ha hw => by
  obtain ⟨v, w', H', h1, h2, h3⟩ := hv a w ha hw
  rw [h1]
  exact ⟨H', h2, h3⟩
section
theorem HV.mv {x : Operand} {v : Value} (hx : evl E x = some v) : HV P W N E H ⟨some d, .move x, ty, pos, af, gd⟩ v := fun a w ha hw => by simp [execOp, ha.ev hx]
theorem HV.as {x : Operand} {v : Value} (hx : evl E x = some v) : HV P W N E H ⟨some d, .assign x, ty, pos, af, gd⟩ v := fun a w ha hw => by simp [execOp, ha.ev hx]
/-- One of two, by a Bool. -/
theorem HV.pick {c x y : Operand} {t : Bool} {v u : Value} (hc : evl E c = some (.bool t)) (hx : t = true → evl E x = some v) (hy : t = false → evl E y = some u) : HV P W N E H ⟨some d, .pick c x y, ty, pos, af, gd⟩ (bif t then v else u) :=
  (fun a w ha hw => by cases t <;> simp_all [execOp, ha.ev hc, asBool, ha.ev])
theorem HV.pickT {c x y : Operand} {v : Value} (hc : evl E c = some (.bool true)) (hx : evl E x = some v) : HV P W N E H ⟨some d, .pick c x y, ty, pos, af, gd⟩ (v) :=
  (fun a w ha hw => by simp [execOp, ha.ev hc, asBool, ha.ev hx])
theorem HV.pickF {c x y : Operand} {v : Value} (hc : evl E c = some (.bool false)) (hy : evl E y = some v) : HV P W N E H ⟨some d, .pick c x y, ty, pos, af, gd⟩ (v) :=
  (fun a w ha hw => by simp [execOp, ha.ev hc, asBool, ha.ev hy])
section
variable {t t' : TypeId} {x y : Operand} {k : IntKind} {p q : Int}
theorem HV.bin {bo : BinOp} {u v z : Value} (hx : evl E x = some u) (hy : evl E y = some v)
    (hr : ∀ w, (do eqGuard bo t x y u v; binOp bo t u v : Sem Value).run P w = .ok z w) : HV P W N E H ⟨some d, .binOp bo t x y t', ty, pos, af, gd⟩ z := fun a w ha hw => by
  have := hr w
  simp only [execOp, ha.ev hx, ha.ev hy, Sem.run_bind] at this ⊢
  rw [this]; rfl
theorem HV.add (hx : evl E x = some (.int .i64 p)) (hy : evl E y = some (.int .i64 q)) (hr : -9223372036854775808 ≤ p + q ∧ p + q ≤ 9223372036854775807) : HV P W N E H ⟨some d, .binOp .add t x y t', ty, pos, af, gd⟩ (.int .i64 (p + q)) :=
  HV.bin hx hy (fun w => by
    have : IntKind.i64.wrap (p + q) = p + q := by rw [IntKind.wrap_i64]; omega
    simp [eqGuard, binOp, Op.intArith, this])
theorem HV.sub (hx : evl E x = some (.int .i64 p)) (hy : evl E y = some (.int .i64 q)) (hr : -9223372036854775808 ≤ p - q ∧ p - q ≤ 9223372036854775807) : HV P W N E H ⟨some d, .binOp .sub t x y t', ty, pos, af, gd⟩ (.int .i64 (p - q)) :=
  HV.bin hx hy (fun w => by
    have : IntKind.i64.wrap (p - q) = p - q := by rw [IntKind.wrap_i64]; omega
    simp [eqGuard, binOp, Op.intArith, this])
theorem HV.mul (hx : evl E x = some (.int .i64 p)) (hy : evl E y = some (.int .i64 q)) (hr : -9223372036854775808 ≤ p * q ∧ p * q ≤ 9223372036854775807) : HV P W N E H ⟨some d, .binOp .mul t x y t', ty, pos, af, gd⟩ (.int .i64 (p * q)) :=
  HV.bin hx hy (fun w => by
    have : IntKind.i64.wrap (p * q) = p * q := by rw [IntKind.wrap_i64]; generalize p * q = r at *; omega
    simp [eqGuard, binOp, Op.intArith, this])
/-- Sums that may pass the end. -/
theorem u64_id {z : Int} (h : 0 ≤ z ∧ z ≤ 18446744073709551615) : IntKind.u64.wrap z = z := by
  simp only [IntKind.wrap, IntKind.signed, IntKind.bits, Bool.false_and, Bool.false_eq_true, if_false]
  exact Int.emod_eq_of_lt h.1 (Int.lt_of_le_of_lt h.2 (by decide))
theorem HV.addu (hx : evl E x = some (.int .u64 p)) (hy : evl E y = some (.int .u64 q)) (hr : 0 ≤ p + q ∧ p + q ≤ 18446744073709551615) : HV P W N E H ⟨some d, .binOp .add t x y t', ty, pos, af, gd⟩ (.int .u64 (p + q)) :=
  HV.bin hx hy (fun w => by simp [eqGuard, binOp, Op.intArith, u64_id hr])
theorem HV.subu (hx : evl E x = some (.int .u64 p)) (hy : evl E y = some (.int .u64 q)) (hr : 0 ≤ p - q ∧ p - q ≤ 18446744073709551615) : HV P W N E H ⟨some d, .binOp .sub t x y t', ty, pos, af, gd⟩ (.int .u64 (p - q)) :=
  HV.bin hx hy (fun w => by simp [eqGuard, binOp, Op.intArith, u64_id hr])
theorem HV.addw (hx : evl E x = some (.int k p)) (hy : evl E y = some (.int k q)) : HV P W N E H ⟨some d, .binOp .add t x y t', ty, pos, af, gd⟩ (.int k (k.wrap (p + q))) :=
  HV.bin hx hy (fun w => by simp [eqGuard, binOp, Op.intArith])
theorem HV.subw (hx : evl E x = some (.int k p)) (hy : evl E y = some (.int k q)) : HV P W N E H ⟨some d, .binOp .sub t x y t', ty, pos, af, gd⟩ (.int k (k.wrap (p - q))) :=
  HV.bin hx hy (fun w => by simp [eqGuard, binOp, Op.intArith])
theorem HV.mulw (hx : evl E x = some (.int k p)) (hy : evl E y = some (.int k q)) : HV P W N E H ⟨some d, .binOp .mul t x y t', ty, pos, af, gd⟩ (.int k (k.wrap (p * q))) :=
  HV.bin hx hy (fun w => by simp [eqGuard, binOp, Op.intArith])
theorem HV.rem (hx : evl E x = some (.int k p)) (hy : evl E y = some (.int k q)) (hr : 0 ≤ p ∧ 0 < q) : HV P W N E H ⟨some d, .binOp .rem t x y t', ty, pos, af, gd⟩ (.int k (p % q)) :=
  HV.bin hx hy (fun w => by
    have h1 : ¬ q = 0 := by omega
    simp [eqGuard, binOp, Op.intDiv, h1, Int.tmod_eq_emod_of_nonneg hr.1])
theorem HV.remt (hx : evl E x = some (.int k p)) (hy : evl E y = some (.int k q)) (hr : q ≠ 0) : HV P W N E H ⟨some d, .binOp .rem t x y t', ty, pos, af, gd⟩ (.int k (p.tmod q)) :=
  HV.bin hx hy (fun w => by simp [eqGuard, binOp, Op.intDiv, hr])
theorem HV.quo (hx : evl E x = some (.int .i64 p)) (hy : evl E y = some (.int .i64 q)) (hr : 0 ≤ p ∧ 0 < q ∧ p ≤ 9223372036854775807) : HV P W N E H ⟨some d, .binOp .quo t x y t', ty, pos, af, gd⟩ (.int .i64 (p / q)) :=
  HV.bin hx hy (fun w => by
    have h1 : ¬ q = 0 := by omega
    have h2 := Int.ediv_nonneg hr.1 (Int.le_of_lt hr.2.1)
    have h3 := Int.ediv_le_self q hr.1
    have : IntKind.i64.wrap (p / q) = p / q := by rw [IntKind.wrap_i64]; generalize p / q = z at *; omega
    simp [eqGuard, binOp, Op.intDiv, h1, Int.tdiv_eq_ediv_of_nonneg hr.1, this])
theorem HV.eqi (hx : evl E x = some (.int k p)) (hy : evl E y = some (.int k q)) : HV P W N E H ⟨some d, .binOp .eql t x y t', ty, pos, af, gd⟩ (.bool (decide (p = q))) :=
  HV.bin hx hy (fun w => by simp [eqGuard, binOp, Op.intCmp]; rfl)
theorem HV.nei (hx : evl E x = some (.int k p)) (hy : evl E y = some (.int k q)) : HV P W N E H ⟨some d, .binOp .neq t x y t', ty, pos, af, gd⟩ (.bool (decide (p ≠ q))) :=
  HV.bin hx hy (fun w => by simp [eqGuard, binOp, Op.intCmp]; rfl)
theorem HV.lti (hx : evl E x = some (.int k p)) (hy : evl E y = some (.int k q)) : HV P W N E H ⟨some d, .binOp .lss t x y t', ty, pos, af, gd⟩ (.bool (decide (p < q))) :=
  HV.bin hx hy (fun w => by simp [eqGuard, binOp, Op.intCmp])
theorem HV.lei (hx : evl E x = some (.int k p)) (hy : evl E y = some (.int k q)) : HV P W N E H ⟨some d, .binOp .leq t x y t', ty, pos, af, gd⟩ (.bool (decide (p ≤ q))) :=
  HV.bin hx hy (fun w => by simp [eqGuard, binOp, Op.intCmp])
theorem HV.gti (hx : evl E x = some (.int k p)) (hy : evl E y = some (.int k q)) : HV P W N E H ⟨some d, .binOp .gtr t x y t', ty, pos, af, gd⟩ (.bool (decide (p > q))) :=
  HV.bin hx hy (fun w => by simp [eqGuard, binOp, Op.intCmp])
theorem HV.gei (hx : evl E x = some (.int k p)) (hy : evl E y = some (.int k q)) : HV P W N E H ⟨some d, .binOp .geq t x y t', ty, pos, af, gd⟩ (.bool (decide (p ≥ q))) :=
  HV.bin hx hy (fun w => by simp [eqGuard, binOp, Op.intCmp])
/-- Bits, as the machine has them. -/
def bt (bo : BinOp) (k : IntKind) (p q : Int) : Int := match bo with
  | .and => k.wrap (BitVec.ofInt k.bits p &&& BitVec.ofInt k.bits q).toNat
  | .or => k.wrap (BitVec.ofInt k.bits p ||| BitVec.ofInt k.bits q).toNat
  | .xor => k.wrap (BitVec.ofInt k.bits p ^^^ BitVec.ofInt k.bits q).toNat
  | _ => k.wrap (BitVec.ofInt k.bits p &&& ~~~ BitVec.ofInt k.bits q).toNat
theorem HV.bits {bo : BinOp} (hb : bo = .and ∨ bo = .or ∨ bo = .xor ∨ bo = .andNot) (hx : evl E x = some (.int k p)) (hy : evl E y = some (.int k q)) : HV P W N E H ⟨some d, .binOp bo t x y t', ty, pos, af, gd⟩ (.int k (bt bo k p q)) :=
  HV.bin hx hy (fun w => by rcases hb with rfl | rfl | rfl | rfl <;> simp [eqGuard, binOp, Op.intBits, bt])
theorem HV.shl {k' : IntKind} (hx : evl E x = some (.int k p)) (hy : evl E y = some (.int k' q)) (hr : 0 ≤ q) : HV P W N E H ⟨some d, .binOp .shl t x y t', ty, pos, af, gd⟩ (.int k (k.wrap (p * 2 ^ min q.toNat k.bits))) :=
  HV.bin hx hy (fun w => by
    have h1 : ¬ q < 0 := by omega
    simp [eqGuard, binOp, Op.shift, h1])
theorem HV.shr {k' : IntKind} (hx : evl E x = some (.int k p)) (hy : evl E y = some (.int k' q)) (hr : 0 ≤ q) : HV P W N E H ⟨some d, .binOp .shr t x y t', ty, pos, af, gd⟩ (.int k (p.fdiv (2 ^ min q.toNat k.bits))) :=
  HV.bin hx hy (fun w => by
    have h1 : ¬ q < 0 := by omega
    simp [eqGuard, binOp, Op.shift, h1])
theorem HV.eqb {p q : Bool} (ht : P.underlying t = some .bool) (hx : evl E x = some (.bool p)) (hy : evl E y = some (.bool q)) : HV P W N E H ⟨some d, .binOp .eql t x y t', ty, pos, af, gd⟩ (.bool (p == q)) :=
  HV.bin hx hy (fun w => by
    have := run_equal_bool (P := P) w t p q ht
    simp [eqGuard, binOp, this])
theorem HV.neb {p q : Bool} (ht : P.underlying t = some .bool) (hx : evl E x = some (.bool p)) (hy : evl E y = some (.bool q)) : HV P W N E H ⟨some d, .binOp .neq t x y t', ty, pos, af, gd⟩ (.bool (!(p == q))) :=
  HV.bin hx hy (fun w => by
    have := run_equal_bool (P := P) w t p q ht
    simp [eqGuard, binOp, this])
theorem HV.eqs {p q : ByteArray} (hx : evl E x = some (.string p)) (hy : evl E y = some (.string q)) : HV P W N E H ⟨some d, .binOp .eql t x y t', ty, pos, af, gd⟩ (.bool (p.toList == q.toList)) :=
  HV.bin hx hy (fun w => by simp [eqGuard, binOp, Op.stringOp])
theorem HV.nes {p q : ByteArray} (hx : evl E x = some (.string p)) (hy : evl E y = some (.string q)) : HV P W N E H ⟨some d, .binOp .neq t x y t', ty, pos, af, gd⟩ (.bool (!(p.toList == q.toList))) :=
  HV.bin hx hy (fun w => by simp [eqGuard, binOp, Op.stringOp])
theorem HV.adds {p q : ByteArray} (hx : evl E x = some (.string p)) (hy : evl E y = some (.string q)) (hr : p.size + q.size ≤ 9223372036854775807) : HV P W N E H ⟨some d, .binOp .add t x y t', ty, pos, af, gd⟩ (.string (p ++ q)) :=
  HV.bin hx hy (fun w => by
    have h1 : ¬ ((p.size : Int) + (q.size : Int) > IntKind.i64.max) := by
      have : IntKind.i64.max = 9223372036854775807 := by decide
      rw [this]; omega
    simp [eqGuard, binOp, Op.stringOp]
    omega)
theorem HV.not {p : Bool} (hx : evl E x = some (.bool p)) : HV P W N E H ⟨some d, .unOp .not t x, ty, pos, af, gd⟩ (.bool (!p)) :=
  (fun a w ha hw => by simp [execOp, ha.ev hx, Op.unary])
theorem HV.neg (hx : evl E x = some (.int .i64 p)) (hr : -9223372036854775807 ≤ p ∧ p ≤ 9223372036854775807) : HV P W N E H ⟨some d, .unOp .neg t x, ty, pos, af, gd⟩ (.int .i64 (-p)) :=
  (fun a w ha hw => by
    have : IntKind.i64.wrap (-p) = -p := by rw [IntKind.wrap_i64]; omega
    simp [execOp, ha.ev hx, Op.unary, Op.intArith, this])
theorem HV.cv {k' : IntKind} {s : TypeId} (hs : (P.underlying s).isSome = true) (ht : P.underlying t = some (.int k')) (hx : evl E x = some (.int k p)) : HV P W N E H ⟨some d, .convert s t x, ty, pos, af, gd⟩ (.int k' (k'.wrap p)) :=
  (fun a w ha hw => by
    obtain ⟨ds, hds⟩ := Option.isSome_iff_exists.mp hs
    simp [execOp, ha.ev hx, convert, run_underlying hds, run_underlying ht, Conv.intToInt])
theorem HV.cve {k' : IntKind} {s : TypeId} {q : Int} (hs : (P.underlying s).isSome = true) (ht : P.underlying t = some (.int k')) (hx : evl E x = some (.int k p)) (hq : k'.wrap p = q) : HV P W N E H ⟨some d, .convert s t x, ty, pos, af, gd⟩ (.int k' q) := by
  rw [← hq]; exact HV.cv hs ht hx
theorem HV.ex {i : Nat} {vs : Array Value} {v : Value} (hx : evl E x = some (.tuple vs)) (hv : vs[i]? = some v) : HV P W N E H ⟨some d, .extract x i, ty, pos, af, gd⟩ (v) :=
  (fun a w ha hw => by simp [execOp, ha.ev hx, Instr.extract, hv])
theorem HV.nc {p : Addr} (hx : evl E x = some (.pointer (some p))) : HV P W N E H ⟨some d, .nilCheck x, ty, pos, af, gd⟩ (.pointer (some p)) :=
  (fun a w ha hw => by simp [execOp, ha.ev hx])
/-- A slice whose length is known. -/
def IsSl (v : Value) (n : Nat) : Prop := ∃ A c, v = .slice A n c
theorem HV.len {v : Value} {n : Nat} {e : TypeId} (ht : P.underlying t = some (.slice e)) (hx : evl E x = some v) (hv : IsSl v n) : HV P W N E H ⟨some d, .call { callee := .builtin .len, args := #[x], argTypes := #[t] }, ty, pos, af, gd⟩ (.int .i64 n) :=
  (fun a w ha hw => by
    obtain ⟨A, c, rfl⟩ := hv
    simp [execOp, resolve, invoke, builtin, ha.ev hx, Builtin.len_, run_underlying ht, goInt])
theorem HV.lens {s : ByteArray} (ht : P.underlying t = some .string) (hx : evl E x = some (.string s)) : HV P W N E H ⟨some d, .call { callee := .builtin .len, args := #[x], argTypes := #[t] }, ty, pos, af, gd⟩ (.int .i64 s.size) :=
  (fun a w ha hw => by simp [execOp, resolve, invoke, builtin, ha.ev hx, Builtin.len_, run_underlying ht, goInt])
theorem HV.mx {ts : Array TypeId} (hx : evl E x = some (.int k p)) (hy : evl E y = some (.int k q)) : HV P W N E H ⟨some d, .call { callee := .builtin .max, args := #[x, y], argTypes := ts }, ty, pos, af, gd⟩ (.int k (max p q)) :=
  (fun a w ha hw => by
    have : (if q > p then q else p) = max p q := by split <;> omega
    simp [execOp, resolve, invoke, builtin, ha.ev hx, ha.ev hy, Builtin.max_, Builtin.max2, List.foldlM]
    omega)
theorem HV.mn {ts : Array TypeId} (hx : evl E x = some (.int k p)) (hy : evl E y = some (.int k q)) : HV P W N E H ⟨some d, .call { callee := .builtin .min, args := #[x, y], argTypes := ts }, ty, pos, af, gd⟩ (.int k (min p q)) :=
  (fun a w ha hw => by
    have : (if q < p then q else p) = min p q := by split <;> omega
    simp [execOp, resolve, invoke, builtin, ha.ev hx, ha.ev hy, Builtin.min_, Builtin.min2, List.foldlM]
    omega)
end
end
end
end Go.Proofs.YteajnanbfkcdcaaDoor.VC
