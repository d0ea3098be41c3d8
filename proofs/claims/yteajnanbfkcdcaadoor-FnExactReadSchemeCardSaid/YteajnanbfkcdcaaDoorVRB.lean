/- Strings told by lists of bytes. -/
import Derived.Test.YteajnanbfkcdcaaDoorVRC
import Derived.WideLaws
import Derived.Laws.Entries
set_option linter.unusedVariables false
set_option linter.unusedSimpArgs false
namespace Go.Proofs.YteajnanbfkcdcaaDoor.VC
open Go Go.RowKit
theorem isB_take {t : List Int} (h : isB t) (n : Nat) : isB (t.take n) := fun x hx => h x (List.mem_of_mem_take hx)
theorem isB_drop {t : List Int} (h : isB t) (n : Nat) : isB (t.drop n) := fun x hx => h x (List.mem_of_mem_drop hx)
theorem isB_at {t : List Int} (h : isB t) (n : Nat) : 0 ≤ t.getD n 0 ∧ t.getD n 0 ≤ 255 := by
  by_cases e : n < t.length
  · have q : t.getD n 0 = t[n] := by simp [e]
    rw [q]; exact h _ (List.getElem_mem e)
  · have q : t.getD n 0 = 0 := by simp [Nat.le_of_not_lt e]
    rw [q]; decide
theorem sp_isB {c : Int} : ∀ {t : List Int}, isB t → ∀ p ∈ spI c t, isB p
  | [], _, p, hp => by
    have : p = [] := by simpa [spI] using hp
    subst this; intro x hx; cases hx
  | x :: t, h, p, hp => by
    have ih := sp_isB (c := c) (t := t) (fun y hy => h y (List.mem_cons_of_mem _ hy))
    have hx := h x List.mem_cons_self
    rw [spI_cons] at hp
    split at hp
    · rcases List.mem_cons.1 hp with rfl | hp
      · intro y hy; cases hy
      · exact ih p hp
    · have hne := spI_ne c t
      generalize spI c t = s at *
      cases s with
      | nil => exact absurd rfl hne
      | cons a r =>
        rcases List.mem_cons.1 hp with rfl | hp
        · intro y hy
          rcases List.mem_cons.1 hy with rfl | hy
          · exact hx
          · exact ih a List.mem_cons_self y hy
        · exact ih p (List.mem_cons_of_mem _ hp)
theorem sp_len {c : Int} : ∀ t : List Int, (spI c t).length ≤ t.length + 1 ∧ ∀ p ∈ spI c t, p.length ≤ t.length
  | [] => ⟨by simp [spI], fun p hp => by have : p = [] := (by simpa [spI] using hp); subst this; exact Nat.le_refl _⟩
  | x :: t => by
    obtain ⟨h1, h2⟩ := sp_len (c := c) t
    rw [spI_cons]
    have hne := spI_ne c t
    split
    · refine ⟨by simp; omega, fun p hp => ?_⟩
      rcases List.mem_cons.1 hp with rfl | hp
      · simp
      · have := h2 p hp; simp; omega
    · generalize spI c t = s at *
      cases s with
      | nil => exact absurd rfl hne
      | cons a r =>
        refine ⟨by simp at h1 ⊢; omega, fun p hp => ?_⟩
        rcases List.mem_cons.1 hp with rfl | hp
        · have := h2 a List.mem_cons_self; simp; omega
        · have := h2 p (List.mem_cons_of_mem _ hp); simp; omega
theorem bytesOf_sub (t : List Int) (a b : Nat) : (bytesOf t).extract a b = bytesOf ((t.take b).drop a) := by
  apply ByteArray.ext
  apply Array.ext'
  rw [bytesOf_data, ByteArray.data_extract, Array.toList_extract, bytesOf_data]
  simp [List.extract, List.map_drop, List.map_take, List.drop_take]
/-- Strings as lists of bytes. -/
def kSb : Kd (List Int) where
  sz := 1
  rd := fun _ _ _ x cs => cs = [.string (bytesOf x)] ∧ isB x
  len := fun h => by rw [h.1]; rfl
  one := fun h u hu => by rw [h.1] at hu; rw [List.mem_singleton.1 hu]; rfl
  but := fun _ _ _ h => h
  okk := fun _ h => h
section
variable {P : Program} {W : World} {N : Nat} {E : List (Nat × Value)} {H : Hp} {d : Nat} {ty : TypeId} {pos : String} {af : Array Edge} {gd : Option (Nat × Bool)} {t t' : TypeId} {x y lo hi : Operand} {a b : List Int} {k k' : IntKind} {q i j : Int}
theorem OwnK.sb {e : Nat} {ok : Nat → Prop} {v : Value} {l : List (List Int)} (h : OwnK kS e W H ok v (l.map bytesOf)) (hb : ∀ p ∈ l, isB p) : OwnK kSb e W H ok v l := by
  obtain ⟨css, h1, h2⟩ := h
  refine ⟨css, ⟨by rw [h1.1, List.length_map], fun i x cs hx hcs => ?_⟩, by rw [List.length_map] at h2; exact h2⟩
  exact ⟨h1.2 i (bytesOf x) cs (by rw [List.getElem?_map, hx]; rfl) hcs, hb x (List.mem_of_getElem? hx)⟩
theorem HV.lenB (ht : P.underlying t = some .string) (hx : evl E x = some (.string (bytesOf a))) : HV P W N E H ⟨some d, .call { callee := .builtin .len, args := #[x], argTypes := #[t] }, ty, pos, af, gd⟩ (.int .i64 (a.length : Int)) := by
  have h := HV.lens (P := P) (W := W) (N := N) (H := H) (d := d) (ty := ty) (pos := pos) (af := af) (gd := gd) ht hx
  rwa [bytesOf_size] at h
theorem bytes_beq (ha : isB a) (hb : isB b) : ((bytesOf a).toList == (bytesOf b).toList) = decide (a = b) := by
  rw [Bool.eq_iff_iff, beq_iff_eq, decide_eq_true_eq, ByteArray.toList_eq, ByteArray.toList_eq]
  constructor
  · intro h
    exact bytesOf_inj ha hb (ByteArray.ext (Array.ext' h))
  · intro h; rw [h]
theorem HV.eqB (ha : isB a) (hb : isB b) (hx : evl E x = some (.string (bytesOf a))) (hy : evl E y = some (.string (bytesOf b))) : HV P W N E H ⟨some d, .binOp .eql t x y t', ty, pos, af, gd⟩ (.bool (decide (a = b))) := by
  have h := HV.eqs (P := P) (W := W) (N := N) (H := H) (d := d) (t := t) (t' := t') (ty := ty) (pos := pos) (af := af) (gd := gd) hx hy
  rwa [bytes_beq ha hb] at h
theorem HV.neB (ha : isB a) (hb : isB b) (hx : evl E x = some (.string (bytesOf a))) (hy : evl E y = some (.string (bytesOf b))) : HV P W N E H ⟨some d, .binOp .neq t x y t', ty, pos, af, gd⟩ (.bool (decide (¬ a = b))) := by
  have h := HV.nes (P := P) (W := W) (N := N) (H := H) (d := d) (t := t) (t' := t') (ty := ty) (pos := pos) (af := af) (gd := gd) hx hy
  rwa [bytes_beq ha hb, ← decide_not] at h
theorem HV.ixB {n : Nat} (ha : isB a) (ht : P.underlying t = some .string) (hx : evl E x = some (.string (bytesOf a))) (hy : evl E y = some (.int k q)) (hq : q = (n : Int)) (h1 : n < a.length) : HV P W N E H ⟨some d, .index t x y, ty, pos, af, gd⟩ (.int .u8 (a.getD n 0)) := by
  have h := HV.ixs (P := P) (W := W) (N := N) (H := H) (d := d) (ty := ty) (pos := pos) (af := af) (gd := gd) ht hx hy (by omega) (by rw [bytesOf_size]; omega)
  have hq2 : q.toNat = n := by omega
  rw [hq2] at h
  have e : (bytesOf a).data.getD n 0 = UInt8.ofNat (a.getD n 0).toNat := by
    have e1 : (bytesOf a).data.getD n 0 = (bytesOf a).data.toList.getD n 0 := by simp [Array.getD_eq_getD_getElem?]
    rw [e1, bytesOf_data]
    simp [h1]
  have hb := isB_at ha n
  have e2 : (((bytesOf a).data.getD n 0).toNat : Int) = a.getD n 0 := by
    rw [e, UInt8.toNat_ofNat', Nat.mod_eq_of_lt (by omega)]
    omega
  rw [e2] at h; exact h
theorem HV.slhB (ht : P.underlying t = some .string) (hx : evl E x = some (.string (bytesOf a))) (hh : evl E hi = some (.int k' j)) (h0 : 0 ≤ j) (h2 : j ≤ a.length) :
    HV P W N E H ⟨some d, .slice t x none (some hi) none, ty, pos, af, gd⟩ (.string (bytesOf (a.take j.toNat))) := fun a_ w ha hw => by
  have key := run_slice_string_h (P := P) (w := w) (t := t) (s := bytesOf a) ht k' j h0 (by rw [bytesOf_size]; exact h2)
  have e : (bytesOf a).extract 0 j.toNat = bytesOf (a.take j.toNat) := by rw [bytesOf_sub]; rfl
  rw [e] at key
  simp [execOp, ha.ev hx, ha.ev hh, Instr.sliceAt, run_underlying ht, key]
theorem HV.sllB (ht : P.underlying t = some .string) (hx : evl E x = some (.string (bytesOf a))) (hl : evl E lo = some (.int k i)) (h0 : 0 ≤ i) (h1 : i ≤ a.length) :
    HV P W N E H ⟨some d, .slice t x (some lo) none none, ty, pos, af, gd⟩ (.string (bytesOf (a.drop i.toNat))) := fun a_ w ha hw => by
  have key := run_slice_string_l (P := P) (w := w) (t := t) (s := bytesOf a) ht k i h0 (by rw [bytesOf_size]; exact h1)
  have e : (bytesOf a).extract i.toNat (bytesOf a).size = bytesOf (a.drop i.toNat) := by rw [bytesOf_sub, bytesOf_size, List.take_length]
  rw [e] at key
  simp [execOp, ha.ev hx, ha.ev hl, Instr.sliceAt, run_underlying ht, key]
theorem HV.slB (ht : P.underlying t = some .string) (hx : evl E x = some (.string (bytesOf a))) (hl : evl E lo = some (.int k i)) (hh : evl E hi = some (.int k' j)) (h0 : 0 ≤ i) (h1 : i ≤ j) (h2 : j ≤ a.length) :
    HV P W N E H ⟨some d, .slice t x (some lo) (some hi) none, ty, pos, af, gd⟩ (.string (bytesOf ((a.take j.toNat).drop i.toNat))) := by
  have h := HV.sls (P := P) (W := W) (N := N) (H := H) (d := d) (ty := ty) (pos := pos) (af := af) (gd := gd) ht hx hl hh h0 h1 (by rw [bytesOf_size]; exact h2)
  rwa [bytesOf_sub] at h
theorem HV.slBn {m n : Nat} (ht : P.underlying t = some .string) (hx : evl E x = some (.string (bytesOf a))) (hl : evl E lo = some (.int k i)) (hh : evl E hi = some (.int k' j)) (e1 : i = (m : Int)) (e2 : j = (n : Int)) (h1 : m ≤ n) (h2 : n ≤ a.length) :
    HV P W N E H ⟨some d, .slice t x (some lo) (some hi) none, ty, pos, af, gd⟩ (.string (bytesOf ((a.take n).drop m))) := by
  have h := HV.slB (P := P) (W := W) (N := N) (H := H) (d := d) (ty := ty) (pos := pos) (af := af) (gd := gd) ht hx hl hh (by omega) (by omega) (by omega)
  rwa [show i.toNat = m by omega, show j.toNat = n by omega] at h
theorem HV.sllBn {m : Nat} (ht : P.underlying t = some .string) (hx : evl E x = some (.string (bytesOf a))) (hl : evl E lo = some (.int k i)) (e1 : i = (m : Int)) (h1 : m ≤ a.length) :
    HV P W N E H ⟨some d, .slice t x (some lo) none none, ty, pos, af, gd⟩ (.string (bytesOf (a.drop m))) := by
  have h := HV.sllB (P := P) (W := W) (N := N) (H := H) (d := d) (ty := ty) (pos := pos) (af := af) (gd := gd) ht hx hl (by omega) (by omega)
  rwa [show i.toNat = m by omega] at h
theorem HV.slhBn {n : Nat} (ht : P.underlying t = some .string) (hx : evl E x = some (.string (bytesOf a))) (hh : evl E hi = some (.int k' j)) (e2 : j = (n : Int)) (h2 : n ≤ a.length) :
    HV P W N E H ⟨some d, .slice t x none (some hi) none, ty, pos, af, gd⟩ (.string (bytesOf (a.take n))) := by
  have h := HV.slhB (P := P) (W := W) (N := N) (H := H) (d := d) (ty := ty) (pos := pos) (af := af) (gd := gd) ht hx hh (by omega) (by omega)
  rwa [show j.toNat = n by omega] at h
/-- An error against nil. -/
theorem HV.neI1 {u : TypeId} {z : Value} (h : P.underlying t = some (.interface (P.methodsAt t))) (hx : evl E x = some (.iface u z)) : HV P W N E H ⟨some d, .binOp .neq t x (.const .nilIface) t', ty, pos, af, gd⟩ (.bool true) :=
  HV.bin hx rfl (fun w => by
    have := run_equal_held_nil (P := P) w t u z h
    simp [eqGuard, binOp, this])
theorem HV.neI0 (h : P.underlying t = some (.interface (P.methodsAt t))) (hx : evl E x = some .nilIface) : HV P W N E H ⟨some d, .binOp .neq t x (.const .nilIface) t', ty, pos, af, gd⟩ (.bool false) :=
  HV.bin hx rfl (fun w => by
    have := run_equal_nil_nil (P := P) w t h
    simp [eqGuard, binOp, this])
theorem isB_app (ha : isB a) (hb : isB b) : isB (a ++ b) := fun z hz => (List.mem_append.1 hz).elim (ha z) (hb z)
theorem itoaI_isB (n : Int) : isB (itoaI n) := fun z hz => by
  unfold itoaI at hz
  obtain ⟨u, _, rfl⟩ := List.mem_map.1 hz
  have := u.toNat_lt
  omega
theorem HV.addB (hx : evl E x = some (.string (bytesOf a))) (hy : evl E y = some (.string (bytesOf b))) (hr : a.length + b.length ≤ 9223372036854775807) : HV P W N E H ⟨some d, .binOp .add t x y t', ty, pos, af, gd⟩ (.string (bytesOf (a ++ b))) := by
  rw [bytesOf_app]
  exact HV.adds hx hy (by rw [bytesOf_size, bytesOf_size]; exact hr)
end
end Go.Proofs.YteajnanbfkcdcaaDoor.VC
