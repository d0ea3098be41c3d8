/- Copies, and rows that grow by zeros: what slices.Insert does. -/
import Derived.Test.YteajnanbfkcdcaaDoorVG
import Derived.Lib.AppendZerosOnto
import Derived.Lib.Overlaps
set_option linter.unusedVariables false
set_option linter.unusedSimpArgs false
namespace Go.Proofs.YteajnanbfkcdcaaDoor.VC
open Go Go.RowKit
variable {P : Program} {W : World} {N : Nat} {E : List (Nat × Value)} {H : Hp}
/-- Less is known of a block. -/
theorem SatH.less {w : World} (hw : SatH W H w) {b : Nat} {x : Blk} (hb : H.m b = some x) {p : List Value} (hp : p <+: x.pre) : SatH W (H.put b ⟨x.elem, p, x.cap⟩) w := by
  obtain ⟨_, cur, hc, hl, ht⟩ := hw.own b x hb
  refine hw.set hb hw.below rfl (fun _ _ => rfl) hc hl ?_
  have h1 : p <+: cur.toList := by
    rw [← ht] at hp
    exact hp.trans (List.take_prefix _ _)
  exact (List.prefix_iff_eq_take.1 h1).symm
theorem SatH.shape {w : World} (hw : SatH W H w) {b : Nat} {x : Blk} (hb : At W H b x) : w.shape? b = some (x.elem, x.cap) ∧ ∀ o, w.frozen? ⟨b, o, none⟩ = false := by
  obtain ⟨_, cur, hc, hl, ht⟩ := hw.own b x hb.m
  refine ⟨?_, fun o => ?_⟩
  · simp [World.shape?, hc, hl]
  · simp [World.frozen?, hc]
section
variable {d : Nat} {ty : TypeId} {pos : String} {af : Array Edge} {gd : Option (Nat × Bool)} {t : TypeId} {x y l h_ : Operand}
theorem HV.cap {A : Option Addr} {n c : Nat} {e : TypeId} (ht : P.underlying t = some (.slice e)) (hx : evl E x = some (.slice A n c)) : HV P W N E H ⟨some d, .call { callee := .builtin .cap, args := #[x], argTypes := #[t] }, ty, pos, af, gd⟩ (.int .i64 c) :=
  (fun a w ha hw => by simp [execOp, resolve, invoke, builtin, ha.ev hx, Builtin.cap_, run_underlying ht, goInt])
theorem HV.lenq {A : Option Addr} {n c : Nat} {e : TypeId} (ht : P.underlying t = some (.slice e)) (hx : evl E x = some (.slice A n c)) : HV P W N E H ⟨some d, .call { callee := .builtin .len, args := #[x], argTypes := #[t] }, ty, pos, af, gd⟩ (.int .i64 n) := HV.len ht hx ⟨A, c, rfl⟩
/-- s[i:], s[:i] of a row from its head. -/
theorem HV.ctL {e : TypeId} {z : Value} {sz bytes n c g i : Nat} {k : IntKind} {q : Int} (ht : SlT P t e z sz bytes) (hx : evl E x = some (.slice (some ⟨g, 0, none⟩) n c)) (hl : evl E l = some (.int k q)) (hq : q = (i : Int)) (hi : i ≤ n) (hc : i < c) :
    HV P W N E H ⟨some d, .slice t x (some l) none none, ty, pos, af, gd⟩ (.slice (some ⟨g, i * sz, none⟩) (n - i) (c - i)) := by
  have h := HV.cutL (P := P) (W := W) (N := N) (H := H) (d := d) (ty := ty) (pos := pos) (af := af) (gd := gd) ht hx hl (by omega) (by omega)
  subst hq
  have e1 : sliced (some ⟨g, 0, none⟩) (i : Int).toNat n c sz = .slice (some ⟨g, i * sz, none⟩) (n - i) (c - i) := by
    unfold sliced
    rw [Int.toNat_natCast, if_neg (by omega)]
    simp [add_at]
  rwa [e1] at h
theorem HV.ctL' {e : TypeId} {z : Value} {sz bytes n c : Nat} {A : Option Addr} {k : IntKind} {q : Int} (ht : SlT P t e z sz bytes) (hx : evl E x = some (.slice A n c)) (hl : evl E l = some (.int k q)) (h0 : 0 ≤ q) (hi : q ≤ n) :
    HV P W N E H ⟨some d, .slice t x (some l) none none, ty, pos, af, gd⟩ (sliced A q.toNat n c sz) := HV.cutL ht hx hl h0 hi
theorem HV.ctH {e : TypeId} {z : Value} {sz bytes n c g i : Nat} {k : IntKind} {q : Int} (ht : SlT P t e z sz bytes) (hx : evl E x = some (.slice (some ⟨g, 0, none⟩) n c)) (hl : evl E l = some (.int k q)) (hq : q = (i : Int)) (hi : i ≤ c) :
    HV P W N E H ⟨some d, .slice t x none (some l) none, ty, pos, af, gd⟩ (.slice (some ⟨g, 0, none⟩) i c) := by
  have h := HV.cutH (P := P) (W := W) (N := N) (H := H) (d := d) (ty := ty) (pos := pos) (af := af) (gd := gd) ht hx hl (by omega) (by omega)
  subst hq
  have e1 : sliced (some ⟨g, 0, none⟩) 0 (i : Int).toNat c sz = .slice (some ⟨g, 0, none⟩) i c := by
    unfold sliced
    rw [Int.toNat_natCast]
    by_cases h0 : c = 0
    · simp [h0]
    · rw [if_neg h0]; simp [add_at]
  rwa [e1] at h
theorem splice_prefix {p cur cs : List Value} {o : Nat} (hp : p <+: cur) (ho : o ≤ p.length) : p.take o ++ cs ++ p.drop (o + cs.length) <+: cur.take o ++ cs ++ cur.drop (o + cs.length) := by
  obtain ⟨r, rfl⟩ := hp
  rw [List.take_append_of_le_length ho, List.drop_append, ← List.append_assoc]
  exact List.prefix_append _ _
theorem At.tk {b k c : Nat} {e : TypeId} {p : List Value} (h : At W H b ⟨e, p, c⟩) : ∀ j u, (p.take k)[j]? = some u → rdc W H ((⟨b, 0, none⟩ : Addr).add j) = some u := fun j u hj => by
  rw [add_at, Nat.zero_add]
  rw [List.getElem?_take] at hj
  split at hj
  · exact h.rd hj
  · cases hj
theorem At.dr {b o c : Nat} {e : TypeId} {p : List Value} (h : At W H b ⟨e, p, c⟩) : ∀ j u, (p.drop o)[j]? = some u → rdc W H ((⟨b, o, none⟩ : Addr).add j) = some u := fun j u hj => by
  rw [add_at]
  rw [List.getElem?_drop] at hj
  exact h.rd hj
theorem At.al {b c : Nat} {e : TypeId} {p : List Value} (h : At W H b ⟨e, p, c⟩) : ∀ j u, p[j]? = some u → rdc W H ((⟨b, 0, none⟩ : Addr).add j) = some u := fun j u hj => by
  rw [add_at, Nat.zero_add]; exact h.rd hj
theorem pre_end {p q new : List Value} {o : Nat} (hp : p.length = o) (hq : q = p ++ new) : q <+: p.take o ++ new ++ p.drop (o + new.length) := by
  subst hq
  rw [List.take_of_length_le (by omega), List.drop_of_length_le (by omega), List.append_nil]
  exact List.prefix_refl _
theorem pre_shift {cells : List Value} {a b : Nat} (h : b ≤ cells.length) : cells.take b ++ cells.drop a <+: cells.take b ++ cells.drop a ++ cells.drop (b + (cells.drop a).length) := List.prefix_append _ _
theorem pre_put {cells new : List Value} {a b : Nat} (hb : b ≤ cells.length) (hab : a + new.length = b) : cells.take a ++ new ++ cells.drop a <+: (cells.take b ++ cells.drop a).take a ++ new ++ (cells.take b ++ cells.drop a).drop (a + new.length) := by
  have hl : (cells.take b).length = b := by rw [List.length_take]; omega
  have e1 : (cells.take b ++ cells.drop a).take a = cells.take a := by
    rw [List.take_append_of_le_length (by omega), List.take_take, Nat.min_eq_left (by omega)]
  have e2 : (cells.take b ++ cells.drop a).drop (a + new.length) = cells.drop a := by
    rw [hab, List.drop_append_of_le_length (by omega), List.drop_of_length_le (by omega), List.nil_append]
  rw [e1, e2]
  exact List.prefix_refl _
/-- copy(dst, src) into a row of the call's own. -/
theorem WV.cp {e : TypeId} {z : Value} {sz bytes g o dLen dCap sLen sCap : Nat} {ad : Addr} {blk : Blk} {cs p : List Value} {t2 : TypeId} {dst : Option Nat} (ht : SlT P t e z sz bytes) (hx : evl E x = some (.slice (some ⟨g, o, none⟩) dLen dCap)) (hy : evl E y = some (.slice (some ad) sLen sCap)) (hb : At W H g blk)
    (hn : cs.length = min sLen dLen * sz) (hsrc : ∀ j u, cs[j]? = some u → rdc W H (ad.add j) = some u) (ho : o ≤ blk.pre.length) (hfit : o + cs.length ≤ blk.cap) (h1 : ∀ u ∈ cs, u.oneCell' = true) (hp : p <+: blk.pre.take o ++ cs ++ blk.pre.drop (o + cs.length)) :
    WV P W N E H ⟨dst, .call { callee := .builtin .copy, args := #[x, y], argTypes := #[t, t2] }, ty, pos, af, gd⟩ (fun _ H' => But (fun k => k = g) H H' ∧ At W H' g ⟨blk.elem, p, blk.cap⟩) := fun a w ha hw => by
  obtain ⟨hu, ⟨i, hi, hz, hs, hby⟩, hzc, hpp⟩ := ht
  obtain ⟨hbw, cur, hc, hcl, hct⟩ := hw.own _ _ hb.m
  have hpre : blk.pre <+: cur.toList := by rw [← hct]; exact List.take_prefix _ _
  have hl := run_loadCells_list (P := P) w ad cs (fun j u hj => hw.cell (hsrc j u hj))
  have hst := run_storeCells_at P g o blk.elem cs 0 cur w hc (by simpa [hcl] using hfit) h1
  have hrun : (execOp a.eval ⟨dst, .call { callee := .builtin .copy, args := #[x, y], argTypes := #[t, t2] }, ty, pos, af, gd⟩).run P w = .ok (.value (goInt ((min sLen dLen : Nat) : Int))) (w.setRow g (cur.toList.take (o + 0) ++ cs ++ cur.toList.drop (o + 0 + cs.length)).toArray) := by
    have hn' : cs.length = Nat.min sLen dLen * sz := hn
    simp [execOp, resolve, invoke, builtin, ha.ev hx, ha.ev hy, Builtin.copy_, run_underlying hu, Builtin.lenOf, Builtin.firstCells, sizeOf, typeInfo, hi, hs, ← hn', hl, hst]
  rw [hrun]
  refine ⟨_, hw.set (w' := w.setRow g _) (y := ⟨blk.elem, p, blk.cap⟩) hb.m ⟨hw.below.os, hw.below.tape, hw.below.output, by rw [size_setRow]; exact hw.below.size, fun k hk => by rw [setRow_other _ _ _ _ (by omega)]; exact hw.below.block k hk⟩ (size_setRow _ _ _) (fun k hk => setRow_other _ _ _ _ hk) (setRow_heap _ _ _ _ _ _ hc) ?_ ?_, H.put_but _ _, H.put_self _ _, hb.w⟩
  · simp only [List.size_toArray, List.length_append, List.length_take, List.length_drop, Array.length_toList]
    omega
  · simp only [Nat.add_zero]
    exact (List.prefix_iff_eq_take.1 (hp.trans (splice_prefix hpre ho))).symm
/-- append(s, make([]T, k)...), where there is no room. -/
theorem WV.apz {e tn : TypeId} {z : Value} {sz bytes i c k : Nat} {ad : Addr} {kq kn : IntKind} {q : Int} {olds : List Value} (ht : SlT P t e z sz bytes) (htn : P.underlying tn = some (.int kn)) (hx : evl E x = some (.slice (some ad) i c)) (hy : evl E y = some (.int kq q)) (hq : q = (k : Int)) (hol : olds.length = i * sz)
    (hold : ∀ j u, olds[j]? = some u → rdc W H (ad.add j) = some u) (hg : c < i + k) (hb : (i + k) * bytes ≤ 140737488355328) (hm : i + k ≤ 9223372036854775807) (h0 : 0 < k) :
    WV P W N E H ⟨some d, .call { callee := .builtin .append, args := #[x, y], argTypes := #[t, tn] }, ty, pos, af, gd⟩
      (fun v' H' => ∃ b c', v' = .slice (some ⟨b, 0, none⟩) (i + k) c' ∧ i + k ≤ c' ∧ c' ≤ maxLen ∧ Ext H H' ∧ H.bd ≤ b ∧ At W H' b ⟨e, olds, c' * sz⟩) := fun a w ha hw => by
  obtain ⟨hu, ⟨inf, hi, hz, hs, hby⟩, hzc, hp⟩ := ht
  subst hq
  have hdr : SatH W H w.drew := hw.drew
  have hfc := run_firstCells_some (P := P) (w := w.drew) inf.size i ad i c olds (by rw [hs]; exact hol) (fun j u hj => hdr.cell (hold j u hj))
  have hrun := Go.Lib.run_append_grow_zeros (P := P) w t tn ty e inf z kq kn hu htn hi hz (some ad) i c olds hfc k h0 (by omega) hg (by omega) (by rw [hby]; have := Nat.mul_le_mul_right bytes (Nat.le_add_left k i); omega) (by rw [hby]; exact growslice_fits hg hb)
  have hrun2 : (execOp a.eval ⟨some d, .call { callee := .builtin .append, args := #[x, y], argTypes := #[t, tn] }, ty, pos, af, gd⟩).run P w = .ok (.value (.slice (some ⟨w.heap.size, 0, none⟩) (i + k) (grownCap w (i + k) c e)))
      (w.drew.alloc (.cells (olds.toArray ++ Builtin.zeroCells z.cells k ++ Builtin.zeroCells z.cells (grownCap w (i + k) c e - (i + k))) e)) := by
    simp [execOp, resolve, invoke, builtin, ha.ev hx, ha.ev hy, hrun]
  rw [hrun2]
  have hge := grownCap_ge w (i + k) c e
  have hmx := grownCap_le_maxLen w (i + k) c e (by simp only [maxLen]; omega)
  have hal := hdr.alloc (olds ++ (Builtin.zeroCells z.cells k).toList ++ (Builtin.zeroCells z.cells (grownCap w (i + k) c e - (i + k))).toList) e
  have hbb : H.bd ≤ w.heap.size := hw.bd
  have hsz : w.drew.heap.size = w.heap.size := rfl
  have hlen : (olds ++ (Builtin.zeroCells z.cells k).toList ++ (Builtin.zeroCells z.cells (grownCap w (i + k) c e - (i + k))).toList).length = grownCap w (i + k) c e * sz := by
    simp only [List.length_append, Array.length_toList, size_zeroCells, hol, hzc]
    rw [← Nat.add_mul, ← Nat.add_mul]
    congr 1; omega
  have hput := H.put_self w.drew.heap.size ⟨e, olds ++ (Builtin.zeroCells z.cells k).toList ++ (Builtin.zeroCells z.cells (grownCap w (i + k) c e - (i + k))).toList, (olds ++ (Builtin.zeroCells z.cells k).toList ++ (Builtin.zeroCells z.cells (grownCap w (i + k) c e - (i + k))).toList).length⟩
  have hle := hal.less hput (p := olds) (by rw [List.append_assoc]; exact List.prefix_append _ _)
  simp only [hlen] at hle
  have hw0 := hw.below.size
  refine ⟨H.put w.drew.heap.size ⟨e, olds, grownCap w (i + k) c e * sz⟩, ?_, _, _, rfl, hge, hmx, H.put_ext _ (by rw [hsz]; exact hbb), hbb, Hp.put_self _ _ _, hw0⟩
  have e1 : (olds.toArray ++ Builtin.zeroCells z.cells k ++ Builtin.zeroCells z.cells (grownCap w (i + k) c e - (i + k))) = (olds ++ (Builtin.zeroCells z.cells k).toList ++ (Builtin.zeroCells z.cells (grownCap w (i + k) c e - (i + k))).toList).toArray := by
    apply Array.toList_inj.1; simp
  rw [e1]
  refine hle.le ⟨by simp only [Hp.put]; omega, fun b x hb _ => ?_⟩
  simp only [Hp.put] at hb ⊢
  split
  · rename_i h; rw [if_pos h] at hb; exact hb
  · rename_i h; rw [if_neg h] at hb; exact hb
/-- A function without a body. -/
theorem HV.extern {f : FuncId} {args : List Operand} {ts : Array TypeId} {vs : List Value} {v : Value} (ha : evla E args = some vs) (hr : ∀ w, SatH W H w → (callFunc f vs.toArray).run P w = .ok (.value v) w) :
    HV P W N E H ⟨some d, .call { callee := .value (.func f), args := args.toArray, argTypes := ts }, ty, pos, af, gd⟩ v := fun a w h1 h2 => by
  have := evla_ev h1 args vs ha
  simp [execOp, resolve, Deferred.ofValue, Act.eval, invoke, this, hr w h2]
/-- slices.overlaps of two rows in two blocks. -/
theorem run_overlaps {w : World} (hw : SatH W H w) {tS tR e : TypeId} {z : Value} {sz bytes : Nat} (ht : SlT P tS e z sz bytes) {b1 b2 o1 o2 la ca lb cb : Nat} {x1 x2 : Blk} (h1 : At W H b1 x1) (h2 : At W H b2 x2) (hne : b1 ≠ b2) (hc : x2.cap ≠ 0) :
    (Extern.SlicesOverlaps.overlaps #[tS, tS] #[tR] #[.slice (some ⟨b1, o1, none⟩) la ca, .slice (some ⟨b2, o2, none⟩) lb cb]).run P w = .ok (.bool false) w := by
  obtain ⟨hu, ⟨i, hi, hz, hs, hby⟩, hzc, hp⟩ := ht
  exact Go.Lib.run_overlaps_apart w tS tR e hu sz (fun w => by simp [sizeOf, typeInfo, hi, hs]) ⟨b1, o1, none⟩ ⟨b2, o2, none⟩ la ca lb cb hne _ _ _ _ (hw.shape h1).1 (hw.shape h2).1 hc ((hw.shape h1).2 _) ((hw.shape h1).2 _)
end
theorem OwnV.self {ok : Nat → Prop} {e sz m : Nat} {v : Value} {cells : List Value} (h : OwnV W H ok e sz v m cells) : OwnV W H (fun x => some x = v.ownBlock) e sz v m cells := by
  obtain ⟨i1, i2, i3⟩ := h
  refine ⟨i1, i2, ?_⟩
  rcases i3 with i3 | ⟨g, c, rfl, j1, j2, j3⟩
  · exact .inl i3
  · exact .inr ⟨g, c, rfl, rfl, j2, j3⟩
/-! ### Rows whose elements own several rows -/
def insL {α : Type} (l : List α) (p : Nat) (x : α) : List α := l.take p ++ x :: l.drop p
theorem insL_len {α : Type} {l : List α} {p : Nat} {x : α} : (insL l p x).length = l.length + 1 := by simp [insL]; omega
theorem insL_at {α : Type} {l : List α} {p : Nat} {x d : α} (hp : p ≤ l.length) (j : Nat) : (insL l p x).getD j d = if j < p then l.getD j d else if j = p then x else l.getD (j - 1) d := by
  unfold insL
  simp only [List.getD_eq_getElem?_getD]
  by_cases h1 : j < p
  · rw [if_pos h1, List.getElem?_append_left (by rw [List.length_take]; omega), List.getElem?_take, if_pos h1]
  · rw [if_neg h1, List.getElem?_append_right (by rw [List.length_take]; omega), List.length_take, Nat.min_eq_left hp]
    by_cases h2 : j = p
    · subst h2; simp
    · rw [if_neg h2, show j - p = (j - p - 1) + 1 by omega, List.getElem?_cons_succ, List.getElem?_drop]
      congr 2; omega
theorem insL_get {α : Type} {l : List α} {p : Nat} {x : α} (hp : p ≤ l.length) (j : Nat) : (insL l p x)[j]? = if j < p then l[j]? else if j = p then some x else l[j - 1]? := by
  unfold insL
  by_cases h1 : j < p
  · rw [if_pos h1, List.getElem?_append_left (by rw [List.length_take]; omega), List.getElem?_take, if_pos h1]
  · rw [if_neg h1, List.getElem?_append_right (by rw [List.length_take]; omega), List.length_take, Nat.min_eq_left hp]
    by_cases h2 : j = p
    · subst h2; simp
    · rw [if_neg h2, show j - p = (j - p - 1) + 1 by omega, List.getElem?_cons_succ, List.getElem?_drop]
      congr 1; omega
theorem insL_set {α : Type} {l : List α} {p : Nat} {x y : α} (hp : p ≤ l.length) : (insL l p x).set p y = insL l p y := by
  unfold insL
  rw [List.set_append, if_neg (by rw [List.length_take]; omega), List.length_take, Nat.min_eq_left hp, Nat.sub_self, List.set_cons_zero]
/-- Two things side by side, whose rows are apart. -/
def kX {α β : Type} (A : Kd α) (B : Kd β) : Kd (α × β) where
  sz := A.sz + B.sz
  rd := fun W H ok x cs => ∃ (sd : Nat → Bool) (c1 c2 : List Value), cs = c1 ++ c2 ∧ A.rd W H (fun b => ok b ∧ sd b = true) x.1 c1 ∧ B.rd W H (fun b => ok b ∧ sd b = false) x.2 c2
  len := fun ⟨_, c1, c2, e, h1, h2⟩ => by rw [e, List.length_append, A.len h1, B.len h2]
  one := fun ⟨_, c1, c2, e, h1, h2⟩ u hu => by
    rw [e] at hu
    rcases List.mem_append.1 hu with hu | hu
    · exact A.one h1 u hu
    · exact B.one h2 u hu
  but := fun k ho hW ⟨sd, c1, c2, e, h1, h2⟩ => ⟨sd, c1, c2, e, A.but k (fun b hb => ho b hb.1) hW h1, B.but k (fun b hb => ho b hb.1) hW h2⟩
  okk := fun k ⟨sd, c1, c2, e, h1, h2⟩ => ⟨sd, c1, c2, e, A.okk (fun b hb hlt => ⟨k b hb.1 hlt, hb.2⟩) h1, B.okk (fun b hb hlt => ⟨k b hb.1 hlt, hb.2⟩) h2⟩
theorem le_X {α β : Type} {A A' : Kd α} {B B' : Kd β} (h1 : Le A A') (h2 : Le B B') : Le (kX A B) (kP A' B') :=
  ⟨by show A'.sz + B'.sz = A.sz + B.sz; rw [h1.1, h2.1], fun _ _ _ _ _ ⟨sd, c1, c2, e, a, b⟩ => ⟨c1, c2, e, h1.2 _ _ _ _ _ (A.okk (fun _ h _ => h.1) a), h2.2 _ _ _ _ _ (B.okk (fun _ h _ => h.1) b)⟩⟩
section
variable {α β : Type}
theorem OwnD.ins {K : Kd α} {e p B : Nat} {H' : Hp} {ok : Nat → Prop} {v v' : Value} {l : List α} {x' : α} {cnew : List Value} {lab : Nat → Nat} {css : List (List Value)} (h1 : Segs (fun i x cs => K.rd W H (fun b => (ok b ∧ b < B) ∧ some b ≠ v.ownBlock ∧ lab b = i) x cs) l css)
    (h2 : OwnV W H (fun b => ok b ∧ b < B) e K.sz v l.length css.flatten) (hn : K.rd W H (fun b => B ≤ b) x' cnew) (hp : p ≤ l.length) (hB : B ≤ H.bd) (k1 : But (fun b => some b = v.ownBlock) H H')
    (k2 : OwnV W H' (fun b => some b = v.ownBlock ∨ H.bd ≤ b) e K.sz v' (l.length + 1) (css.flatten.take (p * K.sz) ++ cnew ++ css.flatten.drop (p * K.sz))) : OwnD K e W H' (fun b => ok b ∨ B ≤ b) v' (insL l p x') := by
  have hW : ∀ b, some b = v.ownBlock → W.heap.size ≤ b := fun b hb => (h2.blk b hb).2.2
  have hlo : ∀ b, some b = v.ownBlock → b < B := fun b hb => (h2.blk b hb).1.2
  have hf := (h1.flat (fun _ _ _ h => K.len h)).1
  have hpc : p ≤ css.length := by rw [h1.1]; exact hp
  have old : ∀ i x cs, l[i]? = some x → css[i]? = some cs → K.rd W H' (fun b => (ok b ∨ B ≤ b) ∧ some b ≠ v'.ownBlock ∧ (if B ≤ b then p else if lab b < p then lab b else lab b + 1) = if i < p then i else i + 1) x cs := fun i x cs q1 q2 =>
    K.okk (fun b hb _ => ⟨.inl hb.1.1, fun e => by
      rcases (k2.blk b e).1 with hn | hn
      · exact hb.2.1 hn
      · have := hb.1.2; omega, by rw [if_neg (by have := hb.1.2; omega), hb.2.2]⟩) (K.but k1 (fun b hb _ => hb.2.1) hW (h1.2 i x cs q1 q2))
  have new : K.rd W H' (fun b => (ok b ∨ B ≤ b) ∧ some b ≠ v'.ownBlock ∧ (if B ≤ b then p else if lab b < p then lab b else lab b + 1) = p) x' cnew := by
    have h3 : K.rd W H (fun b => B ≤ b ∧ b < H.bd) x' cnew := K.okk (fun b hb hlt => ⟨hb, hlt⟩) hn
    exact K.okk (fun b hb _ => ⟨.inr hb.1, fun e => by
      rcases (k2.blk b e).1 with hn | hn
      · have := hlo b hn; have := hb.1; omega
      · have := hb.2; omega, if_pos hb.1⟩) (K.but k1 (fun b hb _ e => by have := hlo b e; have := hb.1; omega) hW h3)
  refine ⟨(fun b => if B ≤ b then p else if lab b < p then lab b else lab b + 1), insL css p cnew, ⟨by rw [insL_len, insL_len, h1.1], fun i x cs q1 q2 => ?_⟩, ?_⟩
  · rw [insL_get hp] at q1
    rw [insL_get hpc] at q2
    by_cases c1 : i < p
    · rw [if_pos c1] at q1 q2
      have := old i x cs q1 q2
      simp only [if_pos c1] at this
      exact this
    · rw [if_neg c1] at q1 q2
      by_cases c2 : i = p
      · rw [if_pos c2] at q1 q2
        cases q1; cases q2; subst c2
        exact new
      · rw [if_neg c2] at q1 q2
        have := old (i - 1) x cs q1 q2
        simp only [if_neg (show ¬ i - 1 < p by omega), show i - 1 + 1 = i by omega] at this
        exact this
  · have e1 : (insL css p cnew).flatten = css.flatten.take (p * K.sz) ++ cnew ++ css.flatten.drop (p * K.sz) := by
      unfold insL
      rw [List.flatten_append, List.flatten_cons, flat_take hf, flat_drop hf, List.append_assoc]
    rw [e1, insL_len]
    exact k2.ok (fun b hb _ => by
      rcases hb with hb | hb
      · exact .inl (h2.blk b hb).1.1
      · exact .inr (by omega))
/-- The second row of an element, to be written. -/
theorem OwnD.nest {A : Kd α} {K' : Kd β} {e e' e2 t : Nat} {ok : Nat → Prop} {v z : Value} {l : List (α × List β)} {bytes : Nat} {kq : IntKind} {q : Int} (hF : Flat K') (h : OwnD (kX A (kO e' K')) e W H ok v l) (hA1 : A.sz = 1) (ht : SlT P t e2 z (kX A (kO e' K')).sz bytes) (h0 : 0 ≤ q) (h1 : q < l.length) :
    ∃ g x u, l[q.toNat]? = some x ∧ some g = v.ownBlock ∧ rdc W H ((⟨g, q.toNat * (kX A (kO e' K')).sz, none⟩ : Addr).add 1) = some u ∧ OwnK K' e' W H ok u x.2 ∧
      (∀ {H2 N E d x y ty pos af gd}, evl E x = some v → evl E y = some (.int kq q) → HV P W N E H2 ⟨some d, .indexAddr t x y, ty, pos, af, gd⟩ (.pointer (some ⟨g, q.toNat * (kX A (kO e' K')).sz, none⟩))) ∧
      ∀ H' c' okx, But (fun b => some b = u.ownBlock) H H' → OwnK K' e' W H' okx u c' → OwnD (kX A (kO e' K')) e W H' ok v (l.set q.toNat (x.1, c')) := by
  have hix := (OwnK.ix (P := P) (k := kq) h.own ht h0 h1)
  obtain ⟨g, x, cs, hz, hK, hC, hg, hP⟩ := hix
  obtain ⟨lab, css, hs, hl, ho, hat⟩ := h
  have hi : q.toNat < l.length := by omega
  have hf := (hs.flat (fun _ _ _ h => (kX A (kO e' K')).len h)).1
  have hi' : q.toNat < css.length := by rw [hs.1]; exact hi
  rcases hat with ⟨rfl, h0⟩ | ⟨g', c, rfl, hg', hA, hc, hm⟩
  · omega
  · simp only [Value.ownBlock, Option.some.injEq] at hg
    subst hg
    have hx := hs.2 q.toNat x _ hz (List.getElem?_eq_getElem hi')
    obtain ⟨sd, c1, c2, hcs, hR1, u, hc2, hO⟩ := hx
    have hl1 : c1.length = 1 := by rw [← hA1]; exact A.len hR1
    have e1 : css.flatten[q.toNat * (kX A (kO e' K')).sz + 1]? = some u := flat_get hf (List.getElem?_eq_getElem hi') (by rw [hcs, List.getElem?_append_right (by omega), hl1, hc2]; rfl)
    have e2 := hA.rd e1
    have hb := hO.blk
    have hW : ∀ b, some b = u.ownBlock → W.heap.size ≤ b := fun b q => (hb b q).2.2
    refine ⟨g, x, u, hz, rfl, by rw [add_at]; exact e2, hO.okk (fun b hb _ => hb.1.1), hP, fun H' c' okx k hu => ?_⟩
    refine ⟨lab, css, ⟨by simp [hs.1], fun j z cs q1 q2 => ?_⟩, by rw [List.length_set]; exact hl, ho, .inr ⟨g, c, by rw [List.length_set], hg', hA.but k (fun q => (hb g q).1.1.2.1 rfl), by rw [List.length_set]; exact hc, hm⟩⟩
    rw [List.getElem?_set] at q1
    split at q1
    · rename_i ej
      subst ej
      simp only [hi, if_true, Option.some.injEq] at q1
      subst q1
      rw [List.getElem?_eq_getElem hi'] at q2
      cases q2
      exact ⟨sd, c1, c2, hcs, A.but k (fun b hb1 _ hb2 => by have := (hb b hb2).1.2; rw [hb1.2] at this; cases this) hW hR1, u, hc2, hu.narrow hF (fun b q => (hb b q).1)⟩
    · rename_i ej
      exact (kX A (kO e' K')).but k (fun b q _ q2 => ej ((hb b q2).1.1.2.2.symm.trans q.2.2)) hW (hs.2 j z cs q1 q2)
end
end Go.Proofs.YteajnanbfkcdcaaDoor.VC
