/- Walks. -/
import Derived.Test.YticobjbjejpomaaVF3
set_option linter.unusedVariables false
set_option linter.unusedSimpArgs false
namespace Go.Proofs.Yticobjbjejpomaa.VC
open Go Go.RowKit
theorem unitL_len (m i : Nat) : (unitL m i).length = m := by simp [unitL]
theorem bnot_f {b : Bool} (h : (!b) = false) : b = true := by cases b <;> simp_all
theorem bnot_t {b : Bool} (h : (!b) = true) : b = false := by cases b <;> simp_all

/-- A row of the call's own, or what is behind its first element. -/
def OwnT (W : World) (H : Hp) (ok : Nat → Prop) (v : Value) (l : List Int) : Prop :=
  OwnK kI 2 W H ok v l ∨ ∃ x0 g a c, v = .slice (some ⟨g, a, none⟩) l.length (c - 1) ∧ (0 < l.length → a = 1) ∧ OwnK kI 2 W H ok (.slice (some ⟨g, 0, none⟩) (l.length + 1) c) (x0 :: l)
section
variable {W : World} {H H' : Hp} {ok ok' out : Nat → Prop} {v : Value} {l : List Int}
theorem OwnT.but (h : OwnT W H ok v l) (k : But out H H') (ho : ∀ b, ok b → b < H.bd → ¬ out b) (hW : ∀ b, out b → W.heap.size ≤ b) : OwnT W H' ok v l := by
  rcases h with h | ⟨x0, g, a, c, h1, h2, h3⟩
  · exact .inl (h.but k ho hW)
  · exact .inr ⟨x0, g, a, c, h1, h2, h3.but k ho hW⟩
theorem OwnT.ext (h : OwnT W H ok v l) (k : Ext H H') : OwnT W H' ok v l := h.but k (fun _ _ _ f => f) (fun _ f => f.elim)
theorem OwnT.okk (h : OwnT W H ok v l) (k : ∀ b, ok b → b < H.bd → ok' b) : OwnT W H ok' v l := by
  rcases h with h | ⟨x0, g, a, c, h1, h2, h3⟩
  · exact .inl (h.okk k)
  · exact .inr ⟨x0, g, a, c, h1, h2, h3.okk k⟩
theorem OwnT.blk (h : OwnT W H ok v l) : ∀ b, some b = v.ownBlock → ok b ∧ b < H.bd ∧ W.heap.size ≤ b := by
  rcases h with h | ⟨x0, g, a, c, rfl, h2, h3⟩
  · exact h.blk
  · intro b hb
    exact h3.blk b hb
theorem OwnT.ltb (h : OwnT W H ok v l) : ∀ b, some b = v.ownBlock → b < H.bd := fun b hb => (h.blk b hb).2.1
theorem RdK.tail {x0 : Int} {g a c : Nat} (hr : RdK kI W H ok (.slice (some ⟨g, 0, none⟩) (l.length + 1) c) (x0 :: l)) (ha : 0 < l.length → a = 1) : RdK kI W H ok (.slice (some ⟨g, a, none⟩) l.length (c - 1)) l := by
  obtain ⟨css, hs, hv⟩ := hr
  obtain ⟨hl, ho, A, c', hA', hc, hm, hA, hR⟩ := hv
  have hf := (hs.flat (fun _ _ _ h => kI.len h)).1
  cases hA'
  have hf2 : css.flatten.drop (1 * kI.sz) = (css.drop 1).flatten := (flat_drop hf 1).symm
  refine ⟨css.drop 1, hs.drop 1, ?_, fun u hu => ho u ?_, some ⟨g, a, none⟩, c - 1, rfl, ?_, by omega, ?_, fun ad had hpos j u hu => ?_⟩
  · rw [← hf2, List.length_drop, hl]
    show (l.length + 1) * 1 - 1 * 1 = l.length * 1
    omega
  · rw [← hf2] at hu
    exact List.mem_of_mem_drop hu
  · have : (x0 :: l).length ≤ c := hc
    simp only [List.length_cons] at this
    omega
  · intro h; cases h
  · rw [← hf2, List.getElem?_drop] at hu
    have e := ha hpos
    subst e
    have := hR ⟨g, 0, none⟩ rfl (by simp) _ u hu
    cases had
    simp only [add_at] at this ⊢
    have e2 : 1 + j = 0 + (1 * kI.sz + j) := by show 1 + j = 0 + (1 * 1 + j); omega
    rw [e2]
    exact this
theorem OwnT.rd (h : OwnT W H ok v l) : RdK kI W H ok v l := by
  rcases h with h | ⟨x0, g, a, c, rfl, h2, h3⟩
  · exact h.rd
  · exact RdK.tail h3.rd h2
theorem OwnT.of_tail {x0 : Int} {v0 : Value} {g c n : Nat} (h : OwnK kI 2 W H ok v0 (x0 :: l)) (e : v0 = .slice (some ⟨g, 0, none⟩) n c) : OwnT W H ok (sliced (some ⟨g, 0, none⟩) 1 n c 1) l := by
  obtain ⟨A, c', e2⟩ := h.isSl
  have e3 := e2
  rw [e] at e3
  have hn : n = l.length + 1 := by cases e3; rfl
  subst hn
  rw [e] at h
  have hc : l.length + 1 ≤ c := by
    obtain ⟨_, _, _, _, hat⟩ := h
    rcases hat with ⟨h1, _⟩ | ⟨g', c', h1, _, _, h2, _⟩
    · cases h1
    · cases h1; exact h2
  unfold sliced
  by_cases h1 : c = 1
  · exact .inr ⟨x0, g, 0, c, by rw [if_pos h1]; rfl, fun q => by omega, h⟩
  · exact .inr ⟨x0, g, 1, c, by rw [if_neg h1]; simp [add_at], fun _ => rfl, h⟩
end
theorem HV.ixT {P : Program} {W : World} {H : Hp} {N : Nat} {E : List (Nat × Value)} {d : Nat} {ty : TypeId} {pos : String} {af : Array Edge} {gd : Option (Nat × Bool)} {t : TypeId} {x y : Operand} {e' : TypeId} {z : Value} {bytes : Nat} {k : IntKind} {i g n c : Nat} (ht : SlT P t e' z 1 bytes) (h1 : i < n) (hx : evl E x = some (.slice (some ⟨g, 1, none⟩) n c)) (hy : evl E y = some (.int k (i : Int))) :
    HV P W N E H ⟨some d, .indexAddr t x y, ty, pos, af, gd⟩ (.pointer (some ⟨g, (i + 1) * kI.sz, none⟩)) := by
  have hh := HV.ix (P := P) (W := W) (H := H) (N := N) (d := d) (ty := ty) (pos := pos) (af := af) (gd := gd) (ad := ⟨g, 1, none⟩) ht (Int.natCast_nonneg i) (by omega) hx hy
  simp only [add_at, Int.toNat_natCast] at hh
  have e : 1 + i * 1 = (i + 1) * kI.sz := by show 1 + i * 1 = (i + 1) * 1; omega
  rw [e] at hh
  exact hh
theorem OwnT.cut {P : Program} {W : World} {H : Hp} {ok : Nat → Prop} {v : Value} {l : List Int} {t e' : TypeId} {z : Value} {bytes : Nat} (h : OwnK kI 2 W H ok v l) (hl : 0 < l.length) (ht : SlT P t e' z 1 bytes) :
    ∃ v', OwnT W H ok v' (l.drop 1) ∧ ∀ {H2 : Hp} {N : Nat} {E : List (Nat × Value)} {d : Nat} {x y : Operand} {ty : TypeId} {pos : String} {af : Array Edge} {gd : Option (Nat × Bool)} {k : IntKind}, evl E x = some v → evl E y = some (.int k 1) → HV P W N E H2 ⟨some d, .slice t x (some y) none none, ty, pos, af, gd⟩ v' := by
  cases l with
  | nil => cases hl
  | cons x0 l =>
    have hat : ∃ g c, v = .slice (some ⟨g, 0, none⟩) (l.length + 1) c := by
      obtain ⟨_, _, _, _, hat⟩ := h
      rcases hat with ⟨_, h2⟩ | ⟨g, c, h1, _⟩
      · cases h2
      · exact ⟨g, c, h1⟩
    obtain ⟨g, c, rfl⟩ := hat
    exact ⟨_, OwnT.of_tail h rfl, fun hx hy => HV.cutL ht hx hy (by decide) (by omega)⟩
theorem RdK.rd {α : Type} {K : Kd α} {W : World} {H : Hp} {ok : Nat → Prop} {v : Value} {l : List α} (h : RdK K W H ok v l) : RdK K W H ok v l := h
theorem rect_snoc {p : Int} {K : Nat} {l : List (List Int)} {x : List Int} (h : rect p K l) (hx : x.length = K ∧ elems p x) : rect p K (l ++ [x]) := fun i hi => by
  rcases Nat.lt_or_ge i l.length with h1 | h1
  · rw [List.getD_eq_getElem?_getD, List.getElem?_append_left h1, ← List.getD_eq_getElem?_getD]; exact h i h1
  · have e : i = l.length := by rw [List.length_append] at hi; simp only [List.length_singleton] at hi; omega
    subst e
    simpa using hx
theorem elems_snoc {p q : Int} {k : List Int} (h : elems p k) (hq : 0 ≤ q ∧ q ≤ p - 1) : elems p (k ++ [q]) := fun j hj => by
  rcases Nat.lt_or_ge j k.length with h1 | h1
  · rw [List.getD_eq_getElem?_getD, List.getElem?_append_left h1, ← List.getD_eq_getElem?_getD]; exact h j h1
  · have e : j = k.length := by rw [List.length_append] at hj; simp only [List.length_singleton] at hj; omega
    subst e
    simpa using hq
def cpR (k : Int) (o : List Int) (l : List (List Int)) (g : List Int) : List (List Int) := partL l (idxG o g) ++ [unitL k.toNat 0]
noncomputable def cpM (o : List Int) (p k : Int) (l : List (List Int)) (g h : List Int) (s : Int) : List Int × Bool := solM p k.toNat (besL (cpR k o l g) [h ++ [s]] (cpR k o l g).length)
noncomputable def cpC (n : Int) (o : List Int) (p k : Int) (l : List (List Int)) (g h : List Int) (s : Int) : Int := if withC n o p k l g h = 0 then if 0 ≤ s ∧ s ≤ p - 1 then if (cpM o p k l g h s).2 = true then 0 else 6 else 2 else withC n o p k l g h
noncomputable def cpL (n : Int) (o : List Int) (p k : Int) (l : List (List Int)) (g h : List Int) (s : Int) : List Int := if withC n o p k l g h = 0 ∧ (0 ≤ s ∧ s ≤ p - 1) ∧ (cpM o p k l g h s).2 = true then (cpM o p k l g h s).1.drop 1 else []
theorem cp_with {n : Int} {o : List Int} {p k : Int} {l : List (List Int)} {g h : List Int} {s : Int} (h1 : ¬ withC n o p k l g h = 0) : cpC n o p k l g h s = withC n o p k l g h ∧ cpL n o p k l g h s = [] := ⟨if_neg h1, if_neg (fun q => h1 q.1)⟩
theorem cp_2 {n : Int} {o : List Int} {p k : Int} {l : List (List Int)} {g h : List Int} {s : Int} (h1 : withC n o p k l g h = 0) (h2 : ¬ (0 ≤ s ∧ s ≤ p - 1)) : cpC n o p k l g h s = 2 ∧ cpL n o p k l g h s = [] := ⟨by unfold cpC; rw [if_pos h1, if_neg h2], if_neg (fun q => h2 q.2.1)⟩
theorem cp_6 {n : Int} {o : List Int} {p k : Int} {l : List (List Int)} {g h : List Int} {s : Int} (h1 : withC n o p k l g h = 0) (h2 : 0 ≤ s ∧ s ≤ p - 1) (h3 : (cpM o p k l g h s).2 = false) : cpC n o p k l g h s = 6 ∧ cpL n o p k l g h s = [] := ⟨by unfold cpC; rw [if_pos h1, if_pos h2, if_neg (fun q => by rw [h3] at q; cases q)], if_neg (fun q => by have := q.2.2; rw [h3] at this; cases this)⟩
theorem cp_0 {n : Int} {o : List Int} {p k : Int} {l : List (List Int)} {g h : List Int} {s : Int} (h1 : withC n o p k l g h = 0) (h2 : 0 ≤ s ∧ s ≤ p - 1) (h3 : (cpM o p k l g h s).2 = true) : cpC n o p k l g h s = 0 ∧ cpL n o p k l g h s = (cpM o p k l g h s).1.drop 1 := ⟨by unfold cpC; rw [if_pos h1, if_pos h2, if_pos h3], if_pos ⟨h1, h2, h3⟩⟩
structure CpF (o : List Int) (p k : Int) (l : List (List Int)) (g h : List Int) (s : Int) : Prop where
  r : rect p k.toNat (cpR k o l g)
  rl : (cpR k o l g).length = (idxG o g).length + 1
  e : elems p (h ++ [s])
  el : (h ++ [s]).length = (cpR k o l g).length
  sl : (cpM o p k l g h s).2 = true → (cpM o p k l g h s).1.length = k.toNat
theorem cp_f {n : Int} {o : List Int} {p k : Int} {l : List (List Int)} {g h : List Int} {s : Int} (h1 : withC n o p k l g h = 0) (h2 : 0 ≤ s ∧ s ≤ p - 1) : CpF o p k l g h s := by
  obtain ⟨hok, hg, hh1, hh2⟩ := withC_z h1
  have hF := okSc_f hok
  obtain ⟨hP1, hP2, hP3⟩ := hF.part g
  have r := rect_snoc hP1 ⟨unitL_len k.toNat 0, unitL_in hF.pb.1 k.toNat 0⟩
  have rl : (partL l (idxG o g) ++ [unitL k.toNat 0]).length = (idxG o g).length + 1 := by rw [List.length_append, partL_len]; rfl
  have e := elems_snoc hh1 h2
  have el : (h ++ [s]).length = (partL l (idxG o g) ++ [unitL k.toNat 0]).length := by rw [rl, List.length_append, hh2]; rfl
  exact ⟨r, rl, e, el, fun hy => (sol_yes hF.q (bes_rect (by have := hF.pb; omega) r e) hy).1⟩
theorem cpL_len {n : Int} {o : List Int} {p k : Int} {l : List (List Int)} {g h : List Int} {s : Int} : (cpL n o p k l g h s).length ≤ 12 := by
  unfold cpL
  split
  · rename_i q
    have hF := okSc_f (withC_z q.1).1
    have := (cp_f q.1 q.2.1).sl q.2.2
    have := hF.k1
    rw [List.length_drop]; omega
  · exact Nat.zero_le _
variable {W : World} {H : Hp}

set_option maxRecDepth 100000 in
theorem unit_ok (k : Int) (hk : 1 ≤ k ∧ k ≤ 40) : ACalls Try.prog W 83 #[.int .i64 k] H (fun r H' => Ext H H' ∧ OwnK kI 2 W H' (fun b => H.bd ≤ b) r (unitL k.toNat 0)) := by
  refine ACalls.of (args := [.int .i64 k]) Try.func83 rfl rfl ?_
  have X0 := Ext.refl H
  refine AW.rs ?_
  refine AL.val rfl (.inl rfl) (HV.as rfl) ?_
  refine AL.nx ?_
  refine AW.rs ?_
  refine AL.val rfl (.inl rfl) (HV.mv rfl) ?_
  have o1 := X0.bd
  refine AL.w rfl (.inl rfl) (WV.mkK (K := kI) (0 : Int) (fun _ _ _ => rfl) sl22 rfl rfl rfl (by omega) (by omega) (by omega)) ?_
  rintro v2 H3 ⟨hx4, ho5⟩
  have X6 := Ext.trans X0 hx4
  refine AL.val rfl (.inl rfl) (HV.as rfl) ?_
  refine AL.nx ?_
  refine AW.rs ?_
  refine AL.val rfl (.inl rfl) (HV.mv rfl) ?_
  obtain ⟨g8, z9, cs10, hz11, hK12, hC13, hg14, hP15⟩ := OwnK.ix (q := 0) ho5 sl22 (by decide) (by simp; omega)
  have X16 := Ext.refl H3
  obtain rfl : cs10 = [.int .i64 z9] := hK12
  refine AL.val rfl (.inl rfl) (hP15 rfl rfl) ?_
  refine AL.w0 (.inl rfl) (WV.stK (okx := fun _ => False) (x' := 1) ho5 hg14 rfl rfl va2 (by simp; omega) rfl (fun _ h => h.elim)) ?_
  rintro _ H17 ⟨hx18, ho19⟩
  have X20 := Ext.thru X6 hx18 (fun b hb => Nat.le_trans o1 (ho5.blk b hb).1)
  have ho22 := ho19.okk (ok' := fun b => H.bd ≤ b) (fun b hb _ => hb.elim id False.elim)
  refine AL.nx ?_
  refine AW.rs ?_
  refine AL.val rfl (.inl rfl) (HV.mv rfl) ?_
  refine AL.val rfl (.inl rfl) (HV.as rfl) ?_
  refine AL.nx ?_
  refine AW.ret ?_
  refine post_one rfl rfl ?_ (.inr rfl)
  exact ⟨X20, ho22.okk (fun b hb _ => Nat.le_trans o1 hb)⟩

set_option maxRecDepth 100000 in
theorem l04First_ok (k : Int) (hk : 1 ≤ k ∧ k ≤ 40) : ACalls Try.prog W 81 #[.int .i64 k] H (fun r H' => Ext H H' ∧ OwnK kI 2 W H' (fun b => H.bd ≤ b) r (unitL k.toNat 0)) := by
  refine ACalls.of (args := [.int .i64 k]) Try.func81 rfl rfl ?_
  have X0 := Ext.refl H
  refine AW.rs ?_
  refine AL.val rfl (.inl rfl) (HV.as rfl) ?_
  refine AL.nx ?_
  refine AW.rs ?_
  refine AL.val rfl (.inl rfl) (HV.mv rfl) ?_
  have o1 := X0.bd
  refine AL.w rfl (.inl rfl) (WV.mkK (K := kI) (0 : Int) (fun _ _ _ => rfl) sl22 rfl rfl rfl (by omega) (by omega) (by omega)) ?_
  rintro v2 H3 ⟨hx4, ho5⟩
  have X6 := Ext.trans X0 hx4
  refine AL.val rfl (.inl rfl) (HV.as rfl) ?_
  refine AL.nx ?_
  refine AW.rs ?_
  refine AL.val rfl (.inl rfl) (HV.mv rfl) ?_
  obtain ⟨g8, z9, cs10, hz11, hK12, hC13, hg14, hP15⟩ := OwnK.ix (q := 0) ho5 sl22 (by decide) (by simp; omega)
  have X16 := Ext.refl H3
  obtain rfl : cs10 = [.int .i64 z9] := hK12
  refine AL.val rfl (.inl rfl) (hP15 rfl rfl) ?_
  refine AL.w0 (.inl rfl) (WV.stK (okx := fun _ => False) (x' := 1) ho5 hg14 rfl rfl va2 (by simp; omega) rfl (fun _ h => h.elim)) ?_
  rintro _ H17 ⟨hx18, ho19⟩
  have X20 := Ext.thru X6 hx18 (fun b hb => Nat.le_trans o1 (ho5.blk b hb).1)
  have ho22 := ho19.okk (ok' := fun b => H.bd ≤ b) (fun b hb _ => hb.elim id False.elim)
  refine AL.nx ?_
  refine AW.rs ?_
  refine AL.val rfl (.inl rfl) (HV.mv rfl) ?_
  refine AL.val rfl (.inl rfl) (HV.as rfl) ?_
  refine AL.nx ?_
  refine AW.ret ?_
  refine post_one rfl rfl ?_ (.inr rfl)
  exact ⟨X20, ho22.okk (fun b hb _ => Nat.le_trans o1 hb)⟩

set_option maxRecDepth 100000 in
theorem markM_ok {v : Value} {l : List (List Int)} {ok2 : Nat → Prop} (p k : Int) (hd : OwnD (kO 2 kI) 22 W H ok2 v l) (hl : (l.length ≤ 1048576 ∧ ∀ x ∈ l, x.length ≤ 1048576)) (q : Int) (hq : 0 ≤ q ∧ q ≤ 4194304) : ACalls Try.prog W 67 #[.agg #[.int .i64 p, .int .i64 k, v], .int .i64 q] H (fun r H' => (∃ kl, r = .int .i64 (q + offs l l.length) ∧ sameLen kl l ∧ heldL q l kl l.length ∧ OwnD (kO 2 kI) 22 W H' ok2 v kl) ∧ But ok2 H H') := by
  refine ACalls.of (args := [.agg #[.int .i64 p, .int .i64 k, v], .int .i64 q]) Try.func67 rfl rfl ?_
  have X0 := Ext.refl H
  refine AW.rs ?_
  refine AL.w rfl (.inl rfl) (WV.bx rfl rfl) ?_
  rintro _ H2 ⟨b1, rfl, hx3, hn4, hb5⟩
  have o6 := Nat.le_trans X0.bd hn4
  have X7 := Ext.trans X0 hx3
  have ho8 := hd.ext hx3
  have X9 := Ext.refl H2
  refine AL.val rfl (.inl rfl) (HV.as rfl) ?_
  refine AL.nx ?_
  refine AW.rs ?_
  refine AL.val rfl (.inl rfl) (HV.fa fl29_2 rfl) ?_
  refine AL.val rfl (.inl rfl) (HV.ld rfl va23 (at_cell_add (j := 2) hb5 rfl)) ?_
  refine AL.val rfl (.inl rfl) (HV.mv rfl) ?_
  refine AL.w rfl (.inl rfl) (WV.call fn116 rfl (markSS2_ok ho8 hl q (by omega))) ?_
  rintro _ H10 ⟨⟨kl11, rfl, hk12, hh13, ho15⟩, hx14⟩
  refine AL.val rfl (.inl rfl) (HV.as rfl) ?_
  refine AL.nx ?_
  refine AW.rs ?_
  refine AL.val rfl (.inl rfl) (HV.mv rfl) ?_
  refine AL.val rfl (.inl rfl) (HV.as rfl) ?_
  refine AL.nx ?_
  refine AW.ret ?_
  refine post_one rfl rfl ?_ (.inr rfl)
  exact ⟨⟨kl11, rfl, hk12, hh13, ho15⟩, But.trans (Ext.but X7 _) hx14⟩

set_option maxRecDepth 100000 in
theorem markSc_ok {vo v : Value} {o : List Int} {l : List (List Int)} {ok1 ok2 : Nat → Prop} (n p k : Int) (ho : OwnK kI 2 W H ok1 vo o) (hd : OwnD (kO 2 kI) 22 W H ok2 v l) (hap : ∀ b, ok1 b → ok2 b → False) (hW2 : ∀ b, ok2 b → W.heap.size ≤ b) (hol : o.length ≤ 1048576) (hl : (l.length ≤ 1048576 ∧ ∀ x ∈ l, x.length ≤ 1048576)) (q : Int) (hq : 0 ≤ q ∧ q ≤ 1048576) : ACalls Try.prog W 18 #[.agg #[.int .i64 n, vo, .int .i64 p, .int .i64 k, v], .int .i64 q] H (fun r H' => (∃ ko kl, r = .int .i64 (q + (o.length : Int) + offs l l.length) ∧ ko.length = o.length ∧ (∀ j : Nat, j < ko.length → ko.getD j 0 = q + (j : Int)) ∧ sameLen kl l ∧ heldL (q + (o.length : Int)) l kl l.length ∧ OwnK kI 2 W H' ok1 vo ko ∧ OwnD (kO 2 kI) 22 W H' ok2 v kl) ∧ But (fun b => ok1 b ∨ ok2 b) H H') := by
  refine ACalls.of (args := [.agg #[.int .i64 n, vo, .int .i64 p, .int .i64 k, v], .int .i64 q]) Try.func18 rfl rfl ?_
  have X0 := Ext.refl H
  refine AW.rs ?_
  refine AL.w rfl (.inl rfl) (WV.bx rfl rfl) ?_
  rintro _ H2 ⟨b1, rfl, hx3, hn4, hb5⟩
  have o6 := Nat.le_trans X0.bd hn4
  have X7 := Ext.trans X0 hx3
  have ho8 := ho.ext hx3
  have ho9 := hd.ext hx3
  have X10 := Ext.refl H2
  refine AL.val rfl (.inl rfl) (HV.as rfl) ?_
  refine AL.nx ?_
  refine AW.rs ?_
  refine AL.val rfl (.inl rfl) (HV.fa fl31_1 rfl) ?_
  refine AL.val rfl (.inl rfl) (HV.ld rfl va22 (at_cell_add (j := 1) hb5 rfl)) ?_
  refine AL.val rfl (.inl rfl) (HV.mv rfl) ?_
  refine AL.w rfl (.inl rfl) (WV.call fn28 rfl (markS_ok q ho8 (by omega))) ?_
  rintro _ H8 ⟨ko, rfl, hko, hho, hx8, ho8⟩
  have hd8 := ho9.but hx8 (fun b hb _ e => hap b (ho8.blk b e).1 hb) (fun b e => (ho8.blk b e).2.2)
  have hb8 := hb5.but hx8 (fun e => by have a1 := ho.ltb _ e; have a2 := o6; omega)
  refine AL.val rfl (.inl rfl) (HV.as rfl) ?_
  refine AL.nx ?_
  refine AW.rs ?_
  refine AL.val rfl (.inl rfl) (HV.fa fl31_2 rfl) ?_
  refine AL.val rfl (.inl rfl) (HV.lda (cs := [.int .i64 p, .int .i64 k, v]) rfl va29 (at_cells hb8 rfl)) ?_
  refine AL.val rfl (.inl rfl) (HV.mv rfl) ?_
  refine AL.w rfl (.inl rfl) (WV.call fn67 rfl (markM_ok p k hd8 hl (q + (o.length : Int)) (by omega))) ?_
  rintro _ H9 ⟨⟨kl, rfl, hkl, hhl, hd9⟩, hx9⟩
  have ho9 := ho8.but hx9 (fun b h1 _ e => hap b h1 e) (fun b e => hW2 b e)
  refine AL.val rfl (.inl rfl) (HV.as rfl) ?_
  refine AL.nx ?_
  refine AW.rs ?_
  refine AL.val rfl (.inl rfl) (HV.mv rfl) ?_
  refine AL.val rfl (.inl rfl) (HV.as rfl) ?_
  refine AL.nx ?_
  refine AW.ret ?_
  refine post_one rfl rfl ?_ (.inr rfl)
  exact ⟨⟨ko, kl, rfl, hko, hho, hkl, hhl, ho9, hd9⟩, But.trans (Ext.but X7 _) (But.trans (But.mono hx8 (fun b e => .inl (ho8.blk b e).1)) (But.mono hx9 (fun b e => .inr e)))⟩

set_option maxRecDepth 100000 in
theorem markU_ok {l : List Int} {ok : Nat → Prop} {x0 : Int} {g a c : Nat} (q : Int) (ho : OwnK kI 2 W H ok (.slice (some ⟨g, 0, none⟩) (l.length + 1) c) (x0 :: l)) (ha : 0 < l.length → a = 1) (hq : 0 ≤ q ∧ q + l.length ≤ 1000000000000000) : ACalls Try.prog W 28 #[.slice (some ⟨g, a, none⟩) l.length (c - 1), .int .i64 q] H (fun r H' => ∃ k, r = .int .i64 (q + (l.length : Int)) ∧ k.length = l.length ∧ (∀ j : Nat, j < k.length → k.getD j 0 = q + (j : Int)) ∧ But (fun b => some b = some g) H H' ∧ OwnK kI 2 W H' ok (.slice (some ⟨g, 0, none⟩) (l.length + 1) c) (x0 :: k)) := by
  refine ACalls.of (args := [.slice (some ⟨g, a, none⟩) l.length (c - 1), .int .i64 q]) Try.func28 rfl rfl ?_
  have B0 := But.refl (fun b => some b = some g) H
  refine AW.rs ?_
  refine AL.val rfl (.inl rfl) (HV.as rfl) ?_
  refine AL.nx ?_
  refine AW.seq ?_
  refine AW.rs ?_
  refine AL.val rfl (.inl rfl) (HV.as rfl) ?_
  refine AL.nx ?_
  refine AW.block ?_
  refine AW.loop (σ := Nat × Int × List Int) (fun ⟨i, p, k⟩ => [(0, .slice (some ⟨g, a, none⟩) l.length (c - 1)), (4, .int .i64 0), (1, .int .i64 p), (5, .int .i64 (i : Int))]) (fun ⟨i, p, k⟩ H' => i ≤ l.length ∧ p = q + i ∧ k.length = l.length ∧ (∀ j : Nat, j < i → k.getD j 0 = q + (j : Int)) ∧ OwnK kI 2 W H' ok (.slice (some ⟨g, 0, none⟩) (l.length + 1) c) (x0 :: k) ∧ But (fun b => some b = some g) H H' ∧ True) (fun ⟨i, p, k⟩ => l.length - i) (0, q, l) ⟨Nat.zero_le _, by omega, rfl, fun j hj => absurd hj (Nat.not_lt_zero _), ho, B0, trivial⟩ ⟨rfl, rfl, rfl, rfl, trivial⟩ ?_
  rintro ⟨i, p, k⟩ H1 ⟨hi, hp, hk, he, hoL, hB, _⟩
  refine AW.seq ?_
  refine AW.rs ?_
  refine AL.val rfl (.inl rfl) (HV.mv rfl) ?_
  refine AL.val rfl (.inl rfl) (HV.mv rfl) ?_
  refine AL.val rfl (.inl rfl) (HV.len Try.underlying22 rfl ⟨_, _, rfl⟩) ?_
  refine AL.val rfl (.inl rfl) (HV.lti rfl rfl) ?_
  refine AL.nx ?_
  refine AW.ifd rfl (fun c2 => ?_) (fun c2 => ?_)
  · -- then
    obtain rfl := ha (by omega)
    refine AW.skip ?_
    refine nrm_and ?_
    refine AW.seq ?_
    refine AW.block ?_
    refine AW.rs ?_
    refine AL.val rfl (.inl rfl) (HV.mv rfl) ?_
    refine AL.val rfl (.inl rfl) (HV.mv rfl) ?_
    refine AL.val rfl (.inl rfl) (HV.mv rfl) ?_
    refine AL.val rfl (.inl rfl) (HV.ixT sl22 (by omega) rfl rfl) ?_
    refine AL.w0 (.inl rfl) (WV.stK (okx := fun _ => False) (x' := p) (i := i + 1) hoL rfl rfl rfl va2 (by simp only [List.length_cons]; omega) rfl (fun _ h => h.elim)) ?_
    rintro _ H12 ⟨hx13, ho14⟩
    have B16 := But.trans hB hx13
    have ho17 : OwnK kI 2 W H12 ok (.slice (some ⟨g, 0, none⟩) (l.length + 1) c) (x0 :: k.set ((i : Int) : Int).toNat p) := ho14.okk (ok' := ok) (fun b hb _ => hb.elim id False.elim)
    refine AL.nx ?_
    refine AW.reg ?_
    refine AL.val rfl (.inl rfl) (HV.mv rfl) ?_
    refine AL.val rfl (.inl rfl) (HV.add rfl rfl (by omega)) ?_
    refine AL.val rfl (.inl rfl) (HV.as rfl) ?_
    refine AL.nil ?_
    refine nrm_blk (nrm_and ?_)
    refine AW.reg ?_
    refine AL.val rfl (.inl rfl) (HV.mv rfl) ?_
    refine AL.val rfl (.inl rfl) (HV.add rfl rfl (by omega)) ?_
    refine AL.val rfl (.inl rfl) (HV.as rfl) ?_
    refine AL.nil ?_
    refine nrm_and ?_
    exact ⟨(i + 1, p + 1, (k.set ((i : Int) : Int).toNat p)), ⟨by omega, by omega, by simp [hk], mark_step he (by omega) hp, ho17, B16, trivial⟩, by first | omega | (dsimp only; omega), ⟨rfl, rfl, rfl, rfl, trivial⟩⟩
  · -- else
    refine AW.exit ?_
    refine ex_and (ex_and (ex_blk ?_))
    refine nrm_and ?_
    refine AW.rs ?_
    refine AL.val rfl (.inl rfl) (HV.mv rfl) ?_
    refine AL.val rfl (.inl rfl) (HV.as rfl) ?_
    refine AL.nx ?_
    refine AW.ret ?_
    refine post_one rfl rfl ?_ (.inr rfl)
    exact ⟨k, congrArg (Value.int .i64) (by omega), hk, fun j hj => he j (by omega), hB, hoL⟩
theorem markT_ok {v : Value} {l : List Int} {ok : Nat → Prop} (q : Int) (ho : OwnT W H ok v l) (hq : 0 ≤ q ∧ q + l.length ≤ 1000000000000000) : ACalls Try.prog W 28 #[v, .int .i64 q] H (fun r H' => ∃ k, r = .int .i64 (q + (l.length : Int)) ∧ k.length = l.length ∧ (∀ j : Nat, j < k.length → k.getD j 0 = q + (j : Int)) ∧ But (fun b => some b = v.ownBlock) H H' ∧ OwnT W H' ok v k) := by
  rcases ho with ho | ⟨x0, g, a, c, rfl, h2, h3⟩
  · refine (markS_ok q ho hq).mono (fun r H' h => ?_)
    obtain ⟨k, e1, e2, e3, e4, e5⟩ := h
    exact ⟨k, e1, e2, e3, e4, .inl e5⟩
  · refine (markU_ok q h3 h2 hq).mono (fun r H' h => ?_)
    obtain ⟨k, e1, e2, e3, e4, e5⟩ := h
    exact ⟨k, e1, e2, e3, e4, .inr ⟨x0, g, a, c, by rw [e2], by rw [e2]; exact h2, by rw [e2]; exact e5⟩⟩

set_option maxRecDepth 100000 in
theorem specCP_ok {vo v : Value} {o : List Int} {l : List (List Int)} {oko ok : Nat → Prop} (n p k : Int) (ho : RdK kI W H oko vo o) (hr : RdK (kR kI) W H ok v l) {vg : Value} {g : List Int} {okg : Nat → Prop} (hrg : RdK kI W H okg vg g) {vh : Value} {h : List Int} {okh : Nat → Prop} (hrh : RdK kI W H okh vh h) (s : Int) : ACalls Try.prog W 30 #[.agg #[.int .i64 n, vo, .int .i64 p, .int .i64 k, v], vg, vh, .int .i64 s] H (fun r H' => (∃ v, r = .tuple #[v, .int .i64 (cpC n o p k l g h s)] ∧ RdK kI W H' (fun b => H.bd ≤ b) v (cpL n o p k l g h s)) ∧ Ext H H') := by
  refine ACalls.of (args := [.agg #[.int .i64 n, vo, .int .i64 p, .int .i64 k, v], vg, vh, .int .i64 s]) Try.func30 rfl rfl ?_
  have X0 := Ext.refl H
  have hm1 := ho.max
  have hm2 := hr.max
  have hm3 := hrg.max
  have hm4 := hrh.max
  refine AW.rs ?_
  refine AL.w rfl (.inl rfl) (WV.bx rfl rfl) ?_
  rintro _ H6 ⟨b5, rfl, hx7, hn8, hb9⟩
  have o10 := Nat.le_trans X0.bd hn8
  have X11 := Ext.trans X0 hx7
  have X12 := Ext.refl H6
  refine AL.val rfl (.inl rfl) (HV.as rfl) ?_
  refine AL.val rfl (.inl rfl) (HV.as rfl) ?_
  refine AL.nx ?_
  refine AW.seq ?_
  refine AW.rs ?_
  refine AL.val rfl (.inl rfl) (HV.mv rfl) ?_
  refine AL.val rfl (.inl rfl) (HV.mv rfl) ?_
  refine AL.w rfl (.inl rfl) (WV.call fn69 rfl (l04With_ok n p k (ho.ext X11) (hr.ext X11) (at_cells hb9 rfl) (hrg.ext X11) (hrh.ext X11))) ?_
  rintro _ H13 ⟨rfl, hx14⟩
  have X15 := Ext.trans X11 hx14
  have X16 := Ext.trans X12 hx14
  have hb17 := hb9.ext hx14
  refine AL.val rfl (.inl rfl) (HV.as rfl) ?_
  refine AL.nx ?_
  refine AW.rs ?_
  refine AL.val rfl (.inl rfl) (HV.mv rfl) ?_
  refine AL.val rfl (.inl rfl) (HV.nei rfl rfl) ?_
  refine AL.nx ?_
  refine AW.ifd rfl (fun c18 => ?_) (fun c18 => ?_)
  · -- then
    refine AW.rs ?_
    have X19 := Ext.refl H13
    have y20 := hb17.lt
    have o21 := X15.bd
    have o22 := X16.bd
    have o23 := X19.bd
    refine AL.w rfl (.inl rfl) (WV.bsK (K := kI) (l := ([] : List Int)) (css := []) sl22 rfl rfl (by first | rfl | (simp [Instr.fill, Value.cells, kI, kB, kU, kU8, kS, Kd.sc]; done) | (simp [Instr.fill, Value.cells, kI, kB, kU, kU8, kS, Kd.sc, rng1, rng2, rng3, rng4, kP])) rfl segs_nil) ?_
    rintro v24 H25 ⟨hx26, ho27⟩
    have X28 := Ext.trans X15 hx26
    have X29 := Ext.trans X16 hx26
    have X30 := Ext.trans X19 hx26
    have hb31 := hb17.ext hx26
    refine AL.val rfl (.inl rfl) (HV.mv rfl) ?_
    refine AL.val rfl (.inl rfl) (HV.as rfl) ?_
    refine AL.val rfl (.inl rfl) (HV.as rfl) ?_
    refine AL.nx ?_
    refine AW.ret ?_
    refine ret_and ?_
    refine post_two rfl rfl rfl ?_ (.inr rfl)
    have hcp := cp_with (s := s) (by assumption); exact ⟨⟨_, by rw [hcp.1], by rw [hcp.2]; exact (ho27.okk (ok' := fun b => H.bd ≤ b) (fun b hb _ => Nat.le_trans o21 hb)).rd⟩, X28⟩
  · -- else
    refine AW.skip ?_
    refine nrm_and ?_
    refine AW.seq ?_
    refine AW.rs ?_
    refine AL.val rfl (.inl rfl) (HV.mv rfl) ?_
    refine AL.val rfl (.inl rfl) (HV.fa fl31_2 rfl) ?_
    refine AL.val rfl (.inl rfl) (HV.fa fl29_0 rfl) ?_
    refine AL.val rfl (.inl rfl) (HV.ld rfl va2 (at_cell_add (j := 2) hb17 rfl)) ?_
    have hp25 := (okSc_f (withC_z (show withC n o p k l g h = 0 by omega)).1).pb
    refine AL.val rfl (.inl rfl) (HV.sub rfl rfl (by omega)) ?_
    refine AL.w rfl (.inl rfl) (WV.call fn84 rfl (l00In_ok (W := W) s 0 (p - 1))) ?_
    rintro _ H33 ⟨rfl, hx34⟩
    have X35 := Ext.trans X15 hx34
    have X36 := Ext.trans X16 hx34
    have hb37 := hb17.ext hx34
    refine AL.val rfl (.inl rfl) (HV.not rfl) ?_
    refine AL.nx ?_
    refine AW.ifn rfl (fun c38 => ?_) (fun c38 => ?_)
    · -- then
      refine AW.rs ?_
      have X39 := Ext.refl H33
      have y40 := hb37.lt
      have o41 := X35.bd
      have o42 := X36.bd
      have o43 := X39.bd
      refine AL.w rfl (.inl rfl) (WV.bsK (K := kI) (l := ([] : List Int)) (css := []) sl22 rfl rfl (by first | rfl | (simp [Instr.fill, Value.cells, kI, kB, kU, kU8, kS, Kd.sc]; done) | (simp [Instr.fill, Value.cells, kI, kB, kU, kU8, kS, Kd.sc, rng1, rng2, rng3, rng4, kP])) rfl segs_nil) ?_
      rintro v44 H45 ⟨hx46, ho47⟩
      have X48 := Ext.trans X35 hx46
      have X49 := Ext.trans X36 hx46
      have X50 := Ext.trans X39 hx46
      have hb51 := hb37.ext hx46
      refine AL.val rfl (.inl rfl) (HV.as rfl) ?_
      refine AL.val rfl (.inl rfl) (HV.as rfl) ?_
      refine AL.nx ?_
      refine AW.ret ?_
      refine ret_and ?_
      refine post_two rfl rfl rfl ?_ (.inr rfl)
      have hwz := (show withC n o p k l g h = 0 by omega); have hcp := cp_2 hwz (by first | assumption | exact (fun q => absurd (by assumption : ¬ (primeI p ∧ elems p [s])) (fun hn => hn ⟨(withC_z hwz).1.2.1.1, fun j hj => by obtain rfl : j = 0 := (by simpa using hj); simpa using q⟩))); exact ⟨⟨_, by rw [hcp.1], by rw [hcp.2]; exact (ho47.okk (ok' := fun b => H.bd ≤ b) (fun b hb _ => Nat.le_trans o41 hb)).rd⟩, X48⟩
    · -- else
      refine AW.skip ?_
      refine nrm_and ?_
      refine AW.rs ?_
      refine AL.val rfl (.inl rfl) (HV.mv rfl) ?_
      have hwz := (show withC n o p k l g h = 0 by omega)
      have hsb : 0 ≤ s ∧ s ≤ p - 1 := by first | assumption | (have q := (by assumption : primeI p ∧ elems p [s]).2 0 (by simp); simpa using q)
      obtain ⟨hok, hg, hh1, hh2⟩ := withC_z hwz
      have hF := okSc_f hok
      have hp := hF.pb
      have hk1 := hF.k1
      have hk0 := hF.k0
      have hF1 := hF.R
      have hF2 := hF.ol
      obtain ⟨hP1, hP2, hP3⟩ := hF.part g
      have hCF := cp_f hwz hsb
      obtain ⟨cr1, cr2, cr3, cr4, cr5⟩ := hCF
      unfold cpR at cr1 cr2 cr4
      have hpl := partL_len l (idxG o g)
      have X53 := Ext.refl H33
      have y54 := hb37.lt
      have o55 := X35.bd
      have o56 := X36.bd
      have o57 := X53.bd
      refine AL.w rfl (.inl rfl) (WV.call fn70 rfl (l04Part_ok n p k (ho.ext X35) (hr.ext X35) (at_cells hb37 rfl) (hrg.ext X35) hok)) ?_
      rintro _ H59 ⟨⟨u58, rfl, ho61⟩, hx60⟩
      have X62 := Ext.trans X35 hx60
      have X63 := Ext.trans X36 hx60
      have X64 := Ext.trans X53 hx60
      have hb65 := hb37.ext hx60
      have X66 := Ext.refl H59
      have ho68 := ho61.okk (ok' := fun b => H33.bd ≤ b ∧ b < H59.bd) (fun b hb hlt => ⟨hb, hlt⟩)
      refine AL.w rfl (.inl rfl) (WV.al ze29 rfl) ?_
      rintro _ H70 ⟨b69, rfl, hx71, hn72, hb73⟩
      have o74 := Nat.le_trans X62.bd hn72
      have o75 := Nat.le_trans X63.bd hn72
      have o76 := Nat.le_trans X64.bd hn72
      have o77 := Nat.le_trans X66.bd hn72
      have ne78 : b5 ≠ b69 := by have := hb65.lt; omega
      have X79 := Ext.trans X62 hx71
      have X80 := Ext.trans X63 hx71
      have X81 := Ext.trans X64 hx71
      have X82 := Ext.trans X66 hx71
      have ho83 := ho68.ext hx71
      have hb84 := hb65.ext hx71
      have X85 := Ext.refl H70
      refine AL.w0 (.inl rfl) (WV.st rfl rfl va29 rfl hb73 (Nat.le_of_ble_eq_true rfl) (one_cons rfl (one_cons rfl (one_cons (sl_one1 (rd_ofO ho83.rd).isSl) one_nil)))) ?_
      rintro _ H86 ⟨hx87, hb88⟩
      have X89 := Ext.thru X79 hx87 (fun z_ hz_ => by rw [hz_]; exact o74)
      have X90 := Ext.thru X80 hx87 (fun z_ hz_ => by rw [hz_]; exact o75)
      have X91 := Ext.thru X81 hx87 (fun z_ hz_ => by rw [hz_]; exact o76)
      have X92 := Ext.thru X82 hx87 (fun z_ hz_ => by rw [hz_]; exact o77)
      have q94 := Nat.le_trans X85.bd hx87.bd
      have ho95 := ho83.but hx87 (fun b hb _ e => by have hb' : H33.bd ≤ b ∧ b < H59.bd := hb; have e' : b = b69 := e; omega) (fun z_ hz_ => by rw [hz_]; exact hb73.w)
      have hb96 := hb84.but hx87 ne78
      have hb97 : At W H86 b69 ⟨29, [.int .i64 p, .int .i64 k, u58], 3⟩ := hb88
      refine AL.nx ?_
      refine AW.seq ?_
      refine AW.draw' [0, 1, 0, 4, 12, 28, 60, 127, 255, 511] mixed (by rfl) ?_
      have X98 := Ext.refl H86
      have y100 := hb97.lt
      have y101 : H33.bd ≤ H86.bd := X91.bd
      have ho99 := ho95.okk (ok' := fun b => (H33.bd ≤ b ∧ b ≠ b69) ∧ b < H86.bd) (fun b hb hlt => by have h1 : H33.bd ≤ b ∧ b < H59.bd := hb; exact ⟨⟨by omega, by omega⟩, hlt⟩)
      refine Dr.read 0 _ 31 _ rfl rfl rfl rfl rfl (RV.of (by intro _ _ h; cases h) (.inl rfl) (fun _ xd => HV.fa fl29_2 rfl)) ?_
      refine Dr.read 1 _ 32 _ rfl rfl rfl rfl rfl (RV.of (by intro _ _ h; cases h) (.inl rfl) (fun _ xd => HV.ld rfl va23 (rdc_ext xd (at_cell_add (j := 2) hb97 rfl)))) ?_
      refine Dr.read 2 _ 33 _ rfl rfl rfl rfl rfl (RV.of (by intro _ _ h; cases h) (.inl rfl) (fun _ xd => HV.fa fl31_2 rfl)) ?_
      refine Dr.read 3 _ 34 _ rfl rfl rfl rfl rfl (RV.of (by intro _ _ h; cases h) (.inl rfl) (fun _ xd => HV.fa fl29_1 rfl)) ?_
      refine Dr.read 4 _ 35 _ rfl rfl rfl rfl rfl (RV.of (by intro _ _ h; cases h) (.inl rfl) (fun _ xd => HV.ld rfl va2 (rdc_ext xd (at_cell_add (j := 3) hb96 rfl)))) ?_
      have y102 := hb96.lt
      have y103 := hb97.lt
      have o104 := X89.bd
      have o105 := X90.bd
      have o106 := X91.bd
      have o107 := X92.bd
      have o108 := X98.bd
      have a109 := ho99.ltb
      refine Dr.eff 5 _ _ rfl (by intro d h; cases h; exact ⟨rfl, rfl⟩) rfl rfl rfl (EC.of (by intro _ _ h; cases h) (.inl rfl) (WV.call fn81 rfl (l04First_ok (W := W) k (by omega)))) (fun v H' h => .inl (h.1)) ?_
      rintro v110 H111 ⟨hx112, ho113⟩
      have q114 := Nat.le_trans q94 hx112.bd
      have X115 := Ext.trans X89 hx112
      have X116 := Ext.trans X90 hx112
      have X117 := Ext.trans X91 hx112
      have X118 := Ext.trans X92 hx112
      have X119 := Ext.trans X98 hx112
      have ho120 := ho99.ext hx112
      have hb121 := hb96.ext hx112
      have hb122 := hb97.ext hx112
      have X123 := Ext.refl H111
      have y125 := hb121.lt
      have y126 := hb122.lt
      have o127 := X115.bd
      have o128 := X116.bd
      have o129 := X117.bd
      have o130 := X118.bd
      have o131 := X119.bd
      have o132 := X123.bd
      have a133 := ho120.ltb
      have a134 := ho113.ltb
      have hc139 : v110.cells = #[v110] := by obtain ⟨A, c, e⟩ := ho113.isSl; rw [e]; rfl
      refine Dr.eff 6 _ _ rfl (by intro d h; cases h; exact ⟨rfl, rfl⟩) rfl rfl rfl (EC.of (by intro _ _ h; cases h) (.inl rfl) (WV.bsO (okx := fun b => H86.bd ≤ b) (K := (kO 2 kI)) (l := ([(unitL (k : Int).toNat 0)] : List (List Int))) (css := [[v110]]) sl23 rfl rfl (by simp [Instr.fill, hc139, kO, rng1]) rfl (segs_cons ⟨_, rfl, ho113⟩ segs_nil))) (fun v H' h => .inl (h.1)) ?_
      rintro v135 H136 ⟨hx137, ho138⟩
      have q141 := Nat.le_trans q114 hx137.bd
      have X142 := Ext.trans X115 hx137
      have X143 := Ext.trans X116 hx137
      have X144 := Ext.trans X117 hx137
      have X145 := Ext.trans X118 hx137
      have X146 := Ext.trans X119 hx137
      have X147 := Ext.trans X123 hx137
      have ho148 := ho120.ext hx137
      have ho149 := ho113.ext hx137
      have hb150 := hb121.ext hx137
      have hb151 := hb122.ext hx137
      have ho140 := ho138.okk (ok' := fun b => H86.bd ≤ b) (fun b hb _ => hb.elim id (fun e => Nat.le_trans X119.bd e))
      have X153 := Ext.refl H136
      refine Dr.eff 7 _ _ rfl (by intro d h; cases h; exact ⟨rfl, rfl⟩) rfl rfl rfl (EC.of (by intro _ _ h; cases h) (.inl rfl) (WV.apD (ok := fun b => (H33.bd ≤ b ∧ b ≠ b69)) (B := H86.bd) sl23 rfl rfl ho148 ho140.rd X146.bd (by rw [hpl]; omega) (by rw [hpl]; omega))) (fun v H' h => .inr (.inl rfl)) ?_
      rintro v154 H155 ⟨hx156, ho157, hb158⟩
      have ho159 := ho157.okk (ok' := fun b => (H33.bd ≤ b ∧ b ≠ b69)) (fun b hb _ => hb.elim id (fun e => by have h1 : H86.bd ≤ b := e; exact ⟨by omega, by omega⟩))
      have q160 := Nat.le_trans q141 hx156.bd
      have X161 := Ext.thru X142 hx156 (fun b hb => Nat.le_trans o55 (ho148.blk b hb).1.1.1)
      have X162 := Ext.thru X143 hx156 (fun b hb => Nat.le_trans o56 (ho148.blk b hb).1.1.1)
      have X163 := Ext.thru X144 hx156 (fun b hb => Nat.le_trans o57 (ho148.blk b hb).1.1.1)
      have q165 := Nat.le_trans X145.bd hx156.bd
      have q167 := Nat.le_trans X146.bd hx156.bd
      have q169 := Nat.le_trans X147.bd hx156.bd
      have q171 := Nat.le_trans X153.bd hx156.bd
      have ho172 := ho140.but hx156 (fun b hb _ e => by have h1 : H86.bd ≤ b := hb; have h2 : (H33.bd ≤ b ∧ b ≠ b69) ∧ b < H86.bd := (ho148.blk b e).1; omega) (fun b hb => (ho148.blk b hb).2.2)
      have hb173 := hb150.but hx156 (fun e => by have q : H33.bd ≤ _ := (ho148.blk _ e).1.1.1; omega)
      have hb174 := hb151.but hx156 (fun e => by have q : (fun b => (H33.bd ≤ b ∧ b ≠ b69) ∧ b < H86.bd) b69 := (ho148.blk _ e).1; have q2 : (H33.bd ≤ b69 ∧ b69 ≠ b69) ∧ b69 < H86.bd := q; omega)
      refine Dr.read 8 _ 39 _ rfl rfl rfl rfl rfl (RV.of (by intro _ _ h; cases h) (.inl rfl) (fun _ xd => HV.fa fl29_2 rfl)) ?_
      refine Dr.eff 9 _ _ rfl (by intro d h; cases h) rfl rfl rfl (EC.of (by intro _ _ h; cases h) (.inl rfl) (WV.st rfl rfl va23 (sl_size (rd_ofO ho159.rd).isSl) hb174 (Nat.le_of_ble_eq_true rfl) (sl_one (rd_ofO ho159.rd).isSl))) (fun v H' h => .inr (.inl rfl)) ?_
      rintro _ H175 ⟨hx176, hb177⟩
      rw [sl_cells (rd_ofO ho159.rd).isSl] at hb177
      have q178 := Nat.le_trans q160 hx176.bd
      have q179 := Nat.le_trans q165 hx176.bd
      have q180 := Nat.le_trans q167 hx176.bd
      have q181 := Nat.le_trans q169 hx176.bd
      have q182 := Nat.le_trans q171 hx176.bd
      have X183 := Ext.thru X161 hx176 (fun z_ hz_ => by rw [hz_]; exact o74)
      have X184 := Ext.thru X162 hx176 (fun z_ hz_ => by rw [hz_]; exact o75)
      have X185 := Ext.thru X163 hx176 (fun z_ hz_ => by rw [hz_]; exact o76)
      have ho186 := ho159.but hx176 (fun b hb _ e => by have hb' : (H33.bd ≤ b ∧ b ≠ b69) := hb; have e' : b = b69 := e; omega) (fun z_ hz_ => by rw [hz_]; exact hb174.w)
      have ho187 := ho172.but hx176 (fun b hb _ e => by have hb' : H86.bd ≤ b := hb; have e' : b = b69 := e; omega) (fun z_ hz_ => by rw [hz_]; exact hb174.w)
      have hb188 := hb173.but hx176 ne78
      have hb189 : At W H175 b69 ⟨29, [.int .i64 p, .int .i64 k, v154], 3⟩ := hb177
      refine Dr.fin rfl ?_
      refine nrm_and ?_
      refine AW.rs ?_
      refine AL.val rfl (.inl rfl) (HV.mv rfl) ?_
      have X190 := Ext.refl H175
      have y191 := hb188.lt
      have y192 := hb189.lt
      have o193 := X183.bd
      have o194 := X184.bd
      have o195 := X185.bd
      have o196 := X190.bd
      have a197 := ho186.ltb
      have ho198 := ho186.okk (ok' := fun b => (H33.bd ≤ b ∧ b ≠ b69) ∧ b < H175.bd) (fun b hb hlt => ⟨hb, hlt⟩)
      have a199 := ho187.ltb
      refine AL.w rfl (.inl rfl) (WV.call fn85 rfl (l00Own_ok (hrh.ext X183) (by omega))) ?_
      rintro v200 H201 ⟨hx202, ho203⟩
      have q204 := Nat.le_trans q178 hx202.bd
      have q205 := Nat.le_trans q179 hx202.bd
      have q206 := Nat.le_trans q180 hx202.bd
      have q207 := Nat.le_trans q181 hx202.bd
      have q208 := Nat.le_trans q182 hx202.bd
      have X209 := Ext.trans X183 hx202
      have X210 := Ext.trans X184 hx202
      have X211 := Ext.trans X185 hx202
      have X212 := Ext.trans X190 hx202
      have ho213 := ho198.ext hx202
      have ho214 := ho187.ext hx202
      have hb215 := hb188.ext hx202
      have hb216 := hb189.ext hx202
      refine AL.val rfl (.inl rfl) (HV.mv rfl) ?_
      have X218 := Ext.refl H201
      have y219 := hb215.lt
      have y220 := hb216.lt
      have o221 := X209.bd
      have o222 := X210.bd
      have o223 := X211.bd
      have o224 := X212.bd
      have o225 := X218.bd
      have a226 := ho213.ltb
      have a227 := ho214.ltb
      have a228 := ho203.ltb
      refine AL.w rfl (.inl rfl) (WV.bsK (K := kI) (l := ([s] : List Int)) (css := [[.int .i64 s]]) sl22 rfl rfl (by first | rfl | (simp [Instr.fill, Value.cells, kI, kB, kU, kU8, kS, Kd.sc]; done) | (simp [Instr.fill, Value.cells, kI, kB, kU, kU8, kS, Kd.sc, rng1, rng2, rng3, rng4, kP])) rfl (segs_cons rfl segs_nil)) ?_
      rintro v229 H230 ⟨hx231, ho232⟩
      have q233 := Nat.le_trans q204 hx231.bd
      have q234 := Nat.le_trans q205 hx231.bd
      have q235 := Nat.le_trans q206 hx231.bd
      have q236 := Nat.le_trans q207 hx231.bd
      have q237 := Nat.le_trans q208 hx231.bd
      have X238 := Ext.trans X209 hx231
      have X239 := Ext.trans X210 hx231
      have X240 := Ext.trans X211 hx231
      have X241 := Ext.trans X212 hx231
      have X242 := Ext.trans X218 hx231
      have ho243 := ho213.ext hx231
      have ho244 := ho214.ext hx231
      have ho245 := ho203.ext hx231
      have hb246 := hb215.ext hx231
      have hb247 := hb216.ext hx231
      have X249 := Ext.refl H230
      refine AL.w rfl (.inl rfl) (WV.apk sl22 rfl rfl ho245 ho232.rd (by simp; omega) (by simp; omega) (fun b hb _ e => Nat.lt_irrefl _ (Nat.lt_of_lt_of_le (a228 b e) hb))) ?_
      rintro v250 H251 ⟨hx252, ho253, hb254⟩
      have ho255 := ho253.narrow (ok' := fun b => H175.bd ≤ b) kI_flat (fun b q => (hb254 b q).elim (fun e => (ho245.blk b e).1) (fun e => Nat.le_trans X241.bd e))
      have q256 := Nat.le_trans q233 hx252.bd
      have q257 := Nat.le_trans q234 hx252.bd
      have q258 := Nat.le_trans q235 hx252.bd
      have q259 := Nat.le_trans q236 hx252.bd
      have q260 := Nat.le_trans q237 hx252.bd
      have X261 := Ext.thru X238 hx252 (fun b hb => Nat.le_trans o193 (ho245.blk b hb).1)
      have X262 := Ext.thru X239 hx252 (fun b hb => Nat.le_trans o194 (ho245.blk b hb).1)
      have X263 := Ext.thru X240 hx252 (fun b hb => Nat.le_trans o195 (ho245.blk b hb).1)
      have X264 := Ext.thru X241 hx252 (fun b hb => Nat.le_trans o196 (ho245.blk b hb).1)
      have q266 := Nat.le_trans X242.bd hx252.bd
      have q268 := Nat.le_trans X249.bd hx252.bd
      have ho269 := ho243.but hx252 (fun b hb _ e => by have h1 : (H33.bd ≤ b ∧ b ≠ b69) ∧ b < H175.bd := hb; have h2 : H175.bd ≤ b := (ho245.blk b e).1; omega) (fun b hb => (ho245.blk b hb).2.2)
      have hb272 := hb246.but hx252 (fun e => by have q : H175.bd ≤ _ := (ho245.blk _ e).1; omega)
      have hb273 := hb247.but hx252 (fun e => by have q : H175.bd ≤ _ := (ho245.blk _ e).1; omega)
      have X274 := Ext.refl H251
      have y275 := hb272.lt
      have y276 := hb273.lt
      have o277 := X261.bd
      have o278 := X262.bd
      have o279 := X263.bd
      have o280 := X264.bd
      have o281 := X274.bd
      have a282 := ho269.ltb
      have a283 := ho255.ltb
      refine AL.w rfl (.inl rfl) (WV.call fn71 rfl (specSol_ok p k (rd_ofO ho269.rd) (at_cells hb273 rfl) ho255.rd hF.q hk0 cr1 (by omega) (by rw [cr2]; omega) cr3 cr4)) ?_
      rintro _ H285 ⟨⟨v284, rfl, hv287⟩, hx286⟩
      have q288 := Nat.le_trans q256 hx286.bd
      have q289 := Nat.le_trans q257 hx286.bd
      have q290 := Nat.le_trans q258 hx286.bd
      have q291 := Nat.le_trans q259 hx286.bd
      have q292 := Nat.le_trans q260 hx286.bd
      have q293 := Nat.le_trans q266 hx286.bd
      have q294 := Nat.le_trans q268 hx286.bd
      have X295 := Ext.trans X261 hx286
      have X296 := Ext.trans X262 hx286
      have X297 := Ext.trans X263 hx286
      have X298 := Ext.trans X264 hx286
      have X299 := Ext.trans X274 hx286
      have ho300 := ho269.ext hx286
      have ho301 := ho255.ext hx286
      have hb302 := hb272.ext hx286
      have hb303 := hb273.ext hx286
      have X304 := Ext.refl H285
      refine AL.val rfl (.inl rfl) (HV.mv rfl) ?_
      refine AL.val rfl (.inl rfl) (HV.ex rfl rfl) ?_
      refine AL.val rfl (.inl rfl) (HV.ex rfl rfl) ?_
      refine AL.val rfl (.inl rfl) (HV.as rfl) ?_
      refine AL.val rfl (.inl rfl) (HV.as rfl) ?_
      refine AL.nx ?_
      refine AW.seq ?_
      refine AW.rs ?_
      refine AL.val rfl (.inl rfl) (HV.mv rfl) ?_
      refine AL.val rfl (.inl rfl) (HV.not rfl) ?_
      refine AL.nx ?_
      refine AW.cond rfl (fun c306 => ?_) (fun c306 => ?_)
      · -- then
        refine AW.rs ?_
        have y307 := hb302.lt
        have y308 := hb303.lt
        have o309 := X295.bd
        have o310 := X296.bd
        have o311 := X297.bd
        have o312 := X298.bd
        have o313 := X299.bd
        have o314 := X304.bd
        have a315 := ho300.ltb
        have a316 := ho301.ltb
        have a317 := hv287.ltb
        refine AL.w rfl (.inl rfl) (WV.bsK (K := kI) (l := ([] : List Int)) (css := []) sl22 rfl rfl (by first | rfl | (simp [Instr.fill, Value.cells, kI, kB, kU, kU8, kS, Kd.sc]; done) | (simp [Instr.fill, Value.cells, kI, kB, kU, kU8, kS, Kd.sc, rng1, rng2, rng3, rng4, kP])) rfl segs_nil) ?_
        rintro v318 H319 ⟨hx320, ho321⟩
        have q322 := Nat.le_trans q288 hx320.bd
        have q323 := Nat.le_trans q289 hx320.bd
        have q324 := Nat.le_trans q290 hx320.bd
        have q325 := Nat.le_trans q291 hx320.bd
        have q326 := Nat.le_trans q292 hx320.bd
        have q327 := Nat.le_trans q293 hx320.bd
        have q328 := Nat.le_trans q294 hx320.bd
        have X329 := Ext.trans X295 hx320
        have X330 := Ext.trans X296 hx320
        have X331 := Ext.trans X297 hx320
        have X332 := Ext.trans X298 hx320
        have X333 := Ext.trans X299 hx320
        have X334 := Ext.trans X304 hx320
        have ho335 := ho300.ext hx320
        have ho336 := ho301.ext hx320
        have ho337 := hv287.ext hx320
        have hb338 := hb302.ext hx320
        have hb339 := hb303.ext hx320
        refine AL.val rfl (.inl rfl) (HV.as rfl) ?_
        refine AL.val rfl (.inl rfl) (HV.as rfl) ?_
        refine AL.nx ?_
        refine AW.ret ?_
        refine ret_and ?_
        refine post_two rfl rfl rfl ?_ (.inr rfl)
        have hcp := cp_6 hwz hsb (show (cpM o p k l g h s).2 = false from bnot_t c306); exact ⟨⟨_, by rw [hcp.1], by rw [hcp.2]; exact (ho321.okk (ok' := fun b => H.bd ≤ b) (fun b hb _ => Nat.le_trans o309 hb)).rd⟩, X329⟩
      · -- else
        refine AW.skip ?_
        refine nrm_and ?_
        refine AW.rs ?_
        have hb0 : (cpM o p k l g h s).2 = true := bnot_f c306
        have hsl := cr5 hb0
        unfold cpM cpR at hsl
        refine AL.val rfl (.inl rfl) (HV.mv rfl) ?_
        obtain ⟨v341, hr342, hP343⟩ := RdK.cutL (q := 1) hv287.rd sl22 (by decide) (by omega)
        refine AL.val rfl (.inl rfl) (hP343 rfl rfl) ?_
        refine AL.val rfl (.inl rfl) (HV.as rfl) ?_
        refine AL.val rfl (.inl rfl) (HV.as rfl) ?_
        refine AL.nx ?_
        refine AW.ret ?_
        refine post_two rfl rfl rfl ?_ (.inr rfl)
        have hcp := cp_0 hwz hsb hb0; exact ⟨⟨_, by rw [hcp.1], by rw [hcp.2]; exact (hr342).okk (fun b hb _ => by have h1 : _ ≤ b := hb; omega)⟩, X295⟩

set_option maxRecDepth 100000 in
theorem implCP_ok {vo v : Value} {o : List Int} {l : List (List Int)} {oko ok : Nat → Prop} (n p k : Int) (ho : RdK kI W H oko vo o) (hr : RdK (kR kI) W H ok v l) {vg : Value} {g : List Int} {okg : Nat → Prop} (hrg : RdK kI W H okg vg g) {vh : Value} {h : List Int} {okh : Nat → Prop} (hrh : RdK kI W H okh vh h) (s : Int) : ACalls Try.prog W 31 #[.agg #[.int .i64 n, vo, .int .i64 p, .int .i64 k, v], vg, vh, .int .i64 s] H (fun r H' => (∃ v, r = .tuple #[v, .int .i64 (cpC n o p k l g h s)] ∧ OwnT W H' (fun b => H.bd ≤ b) v (cpL n o p k l g h s)) ∧ Ext H H') := by
  refine ACalls.of (args := [.agg #[.int .i64 n, vo, .int .i64 p, .int .i64 k, v], vg, vh, .int .i64 s]) Try.func31 rfl rfl ?_
  have X0 := Ext.refl H
  have hm1 := ho.max
  have hm2 := hr.max
  have hm3 := hrg.max
  have hm4 := hrh.max
  refine AW.rs ?_
  refine AL.w rfl (.inl rfl) (WV.bx rfl rfl) ?_
  rintro _ H6 ⟨b5, rfl, hx7, hn8, hb9⟩
  have o10 := Nat.le_trans X0.bd hn8
  have X11 := Ext.trans X0 hx7
  have X12 := Ext.refl H6
  refine AL.val rfl (.inl rfl) (HV.as rfl) ?_
  refine AL.val rfl (.inl rfl) (HV.as rfl) ?_
  refine AL.nx ?_
  refine AW.rs ?_
  refine AL.val rfl (.inl rfl) (HV.lda (cs := [.int .i64 n, vo, .int .i64 p, .int .i64 k, v]) rfl va31 (at_cells hb9 rfl)) ?_
  refine AL.val rfl (.inl rfl) (HV.mv rfl) ?_
  refine AL.val rfl (.inl rfl) (HV.mv rfl) ?_
  refine AL.w rfl (.inl rfl) (WV.call fn72 rfl (heldCode_ok n p k (ho.ext X11) (hr.ext X11) (hrg.ext X11) (hrh.ext X11))) ?_
  rintro _ H13 ⟨rfl, hx14⟩
  have X15 := Ext.trans X11 hx14
  have X16 := Ext.trans X12 hx14
  have hb17 := hb9.ext hx14
  refine AL.val rfl (.inl rfl) (HV.as rfl) ?_
  refine AL.nx ?_
  refine AW.seq ?_
  refine AW.rs ?_
  refine AL.val rfl (.inl rfl) (HV.mv rfl) ?_
  refine AL.val rfl (.inl rfl) (HV.eqi rfl rfl) ?_
  refine AL.val rfl (.inl rfl) (HV.mv rfl) ?_
  by_cases c18 : (withC n o p k l g h) = 0
  · -- true
    have c18_ : decide ((withC n o p k l g h) = 0) = true := decide_eq_true c18
    rw [c18_]
    refine AL.val rfl (.inr ⟨_, _, _, rfl, rfl, rfl⟩) (HV.fa fl31_2 rfl) ?_
    refine AL.val rfl (.inr ⟨_, _, _, rfl, rfl, rfl⟩) (HV.fa fl29_0 rfl) ?_
    refine AL.val rfl (.inr ⟨_, _, _, rfl, rfl, rfl⟩) (HV.ld rfl va2 (at_cell_add (j := 2) hb17 rfl)) ?_
    refine AL.val rfl (.inr ⟨_, _, _, rfl, rfl, rfl⟩) (HV.mv rfl) ?_
    have X19 := Ext.refl H13
    have y20 := hb17.lt
    have o21 := X15.bd
    have o22 := X16.bd
    have o23 := X19.bd
    refine AL.w rfl (.inr ⟨_, _, _, rfl, rfl, rfl⟩) (WV.bsK (K := kI) (l := ([s] : List Int)) (css := [[.int .i64 s]]) sl22 rfl rfl (by first | rfl | (simp [Instr.fill, Value.cells, kI, kB, kU, kU8, kS, Kd.sc]; done) | (simp [Instr.fill, Value.cells, kI, kB, kU, kU8, kS, Kd.sc, rng1, rng2, rng3, rng4, kP])) rfl (segs_cons rfl segs_nil)) ?_
    rintro v24 H25 ⟨hx26, ho27⟩
    have X28 := Ext.trans X15 hx26
    have X29 := Ext.trans X16 hx26
    have X30 := Ext.trans X19 hx26
    have hb31 := hb17.ext hx26
    refine AL.w rfl (.inr ⟨_, _, _, rfl, rfl, rfl⟩) (WV.call fn86 rfl (areEl_ok p ho27.rd)) ?_
    rintro _ H33 ⟨rfl, hx34⟩
    have X35 := Ext.trans X28 hx34
    have X36 := Ext.trans X29 hx34
    have X37 := Ext.trans X30 hx34
    have ho38 := ho27.ext hx34
    have hb39 := hb31.ext hx34
    refine AL.val rfl (.inr ⟨_, _, _, rfl, rfl, rfl⟩) (HV.not rfl) ?_
    refine AL.val rfl (.inl rfl) (HV.pickT rfl rfl) ?_
    refine AL.nx ?_
    refine AW.ifn rfl (fun c40 => ?_) (fun c40 => ?_)
    · -- then
      refine AW.reg ?_
      refine AL.val rfl (.inl rfl) (HV.as rfl) ?_
      refine AL.nil ?_
      refine nrm_and ?_
      refine AW.seq ?_
      refine AW.rs ?_
      refine AL.val rfl (.inl rfl) (HV.mv rfl) ?_
      refine AL.val rfl (.inl rfl) (HV.nei rfl rfl) ?_
      refine AL.nx ?_
      refine AW.ifd rfl (fun c41 => ?_) (fun c41 => ?_)
      · -- then
        refine AW.rs ?_
        refine AL.val rfl (.inl rfl) (HV.mv rfl) ?_
        refine AL.val rfl (.inl rfl) (HV.as rfl) ?_
        refine AL.val rfl (.inl rfl) (HV.as rfl) ?_
        refine AL.nx ?_
        refine AW.ret ?_
        refine ret_and ?_
        refine post_two rfl rfl rfl ?_ (.inr rfl)
        have hwz := (show withC n o p k l g h = 0 by omega); have hcp := cp_2 hwz (by first | assumption | exact (fun q => absurd (by assumption : ¬ (primeI p ∧ elems p [s])) (fun hn => hn ⟨(withC_z hwz).1.2.1.1, fun j hj => by obtain rfl : j = 0 := (by simpa using hj); simpa using q⟩))); exact ⟨⟨_, by rw [hcp.1], by rw [hcp.2]; exact .inl (OwnK.nil _)⟩, X35⟩
      · -- else
        exfalso; omega
    · -- else
      refine AW.skip ?_
      refine nrm_and ?_
      refine AW.seq ?_
      refine AW.rs ?_
      refine AL.val rfl (.inl rfl) (HV.mv rfl) ?_
      refine AL.val rfl (.inl rfl) (HV.nei rfl rfl) ?_
      refine AL.nx ?_
      refine AW.ifd rfl (fun c42 => ?_) (fun c42 => ?_)
      · -- then
        refine AW.rs ?_
        refine AL.val rfl (.inl rfl) (HV.mv rfl) ?_
        refine AL.val rfl (.inl rfl) (HV.as rfl) ?_
        refine AL.val rfl (.inl rfl) (HV.as rfl) ?_
        refine AL.nx ?_
        refine AW.ret ?_
        refine ret_and ?_
        refine post_two rfl rfl rfl ?_ (.inr rfl)
        have hcp := cp_with (s := s) (by assumption); exact ⟨⟨_, by rw [hcp.1], by rw [hcp.2]; exact .inl (OwnK.nil _)⟩, X35⟩
      · -- else
        refine AW.skip ?_
        refine nrm_and ?_
        refine AW.seq ?_
        refine AW.draw' [0, 0, 2, 7, 0, 31] mixed (by rfl) ?_
        have hwz := (show withC n o p k l g h = 0 by omega)
        have hsb : 0 ≤ s ∧ s ≤ p - 1 := by first | assumption | (have q := (by assumption : primeI p ∧ elems p [s]).2 0 (by simp); simpa using q)
        obtain ⟨hok, hg, hh1, hh2⟩ := withC_z hwz
        have hF := okSc_f hok
        have hp := hF.pb
        have hk1 := hF.k1
        have hk0 := hF.k0
        have hF1 := hF.R
        have hF2 := hF.ol
        obtain ⟨hP1, hP2, hP3⟩ := hF.part g
        have hCF := cp_f hwz hsb
        obtain ⟨cr1, cr2, cr3, cr4, cr5⟩ := hCF
        unfold cpR at cr1 cr2 cr4
        have hpl := partL_len l (idxG o g)
        refine Dr.read 0 _ 32 _ rfl rfl rfl rfl rfl (RV.of (by intro _ _ h; cases h) (.inl rfl) (fun _ xd => HV.lda (cs := [.int .i64 n, vo, .int .i64 p, .int .i64 k, v]) rfl va31 (fun j u hu => rdc_ext xd ((at_cells hb39 rfl) j u hu)))) ?_
        refine Dr.read 1 _ 33 _ rfl rfl rfl rfl rfl (RV.of (by intro _ _ h; cases h) (.inl rfl) (fun _ xd => HV.mv rfl)) ?_
        refine Dr.eff2 2 4 _ _ _ _  rfl rfl  (by intro d h; cases h; exact ⟨rfl, rfl⟩) (by intro d h; cases h; exact ⟨rfl, rfl⟩) rfl rfl  rfl rfl rfl  (EC.of (by intro _ _ h; cases h) (.inl rfl) (WV.call fn74 rfl (crowdOf_ok (hrg.ext X35) (by skip; exact ris_low hF.hn hg)))) (EC.of (by intro _ _ h; cases h) (.inl rfl) (WV.al ze29 rfl)) (fun v H' h => .inl (h.2)) (fun v H' h => .inl (h.choose_spec.2.1)) ?_ ?_ 
        · -- 2 first
          rintro _ H50 ⟨rfl, hx51⟩
          have X52 := Ext.trans X35 hx51
          have X53 := Ext.trans X36 hx51
          have X54 := Ext.trans X37 hx51
          have hb55 := hb39.ext hx51
          have X56 := Ext.refl H50
          have y57 := hb55.lt
          have o58 := X52.bd
          have o59 := X53.bd
          have o60 := X54.bd
          have o61 := X56.bd
          refine Dr.eff2 3 4 _ _ _ _  rfl rfl  (by intro d h; cases h; exact ⟨rfl, rfl⟩) (by intro d h; cases h; exact ⟨rfl, rfl⟩) rfl rfl  rfl rfl rfl  (EC.of (by intro _ _ h; cases h) (.inl rfl) (WV.call fn73 rfl (held_ok n p k (ho.ext X52) (hr.ext X52) hok hg))) (EC.of (by intro _ _ h; cases h) (.inl rfl) (WV.al ze29 rfl)) (fun v H' h => .inl (h.2)) (fun v H' h => .inl (h.choose_spec.2.1)) ?_ ?_ 
          · -- 3 first
            have X71 := Ext.refl H50
            have y72 := hb55.lt
            have o73 := X52.bd
            have o74 := X53.bd
            have o75 := X54.bd
            have o76 := X71.bd
            rintro _ H78 ⟨⟨u77, rfl, ho80⟩, hx79⟩
            have X81 := Ext.trans X52 hx79
            have X82 := Ext.trans X53 hx79
            have X83 := Ext.trans X54 hx79
            have X84 := Ext.trans X71 hx79
            have hb85 := hb55.ext hx79
            have X86 := Ext.refl H78
            have ho88 := ho80.okk (ok' := fun b => H50.bd ≤ b ∧ b < H78.bd) (fun b hb hlt => ⟨hb, hlt⟩)
            refine Dr.eff 4 _ _ rfl (by intro d h; cases h; exact ⟨rfl, rfl⟩) rfl rfl rfl (EC.of (by intro _ _ h; cases h) (.inl rfl) (WV.al ze29 rfl)) (fun v H' h => .inl (h.choose_spec.2.1)) ?_
            rintro _ H90 ⟨b89, rfl, hx91, hn92, hb93⟩
            have o94 := Nat.le_trans X81.bd hn92
            have o95 := Nat.le_trans X82.bd hn92
            have o96 := Nat.le_trans X83.bd hn92
            have o97 := Nat.le_trans X84.bd hn92
            have o98 := Nat.le_trans X86.bd hn92
            have ne99 : b5 ≠ b89 := by have := hb85.lt; omega
            have X100 := Ext.trans X81 hx91
            have X101 := Ext.trans X82 hx91
            have X102 := Ext.trans X83 hx91
            have X103 := Ext.trans X84 hx91
            have X104 := Ext.trans X86 hx91
            have ho105 := ho88.ext hx91
            have hb106 := hb85.ext hx91
            have X107 := Ext.refl H90
            refine Dr.eff 5 _ _ rfl (by intro d h; cases h) rfl rfl rfl (EC.of (by intro _ _ h; cases h) (.inl rfl) (WV.st rfl rfl va29 rfl hb93 (Nat.le_of_ble_eq_true rfl) (one_cons rfl (one_cons rfl (one_cons (sl_one1 (rd_ofO ho105.rd).isSl) one_nil))))) (fun v H' h => .inr (.inl rfl)) ?_
            rintro _ H108 ⟨hx109, hb110⟩
            have X111 := Ext.thru X100 hx109 (fun z_ hz_ => by rw [hz_]; exact o94)
            have X112 := Ext.thru X101 hx109 (fun z_ hz_ => by rw [hz_]; exact o95)
            have X113 := Ext.thru X102 hx109 (fun z_ hz_ => by rw [hz_]; exact o96)
            have X114 := Ext.thru X103 hx109 (fun z_ hz_ => by rw [hz_]; exact o97)
            have X115 := Ext.thru X104 hx109 (fun z_ hz_ => by rw [hz_]; exact o98)
            have q117 := Nat.le_trans X107.bd hx109.bd
            have ho118 := ho105.but hx109 (fun b hb _ e => by have hb' : H50.bd ≤ b ∧ b < H78.bd := hb; have e' : b = b89 := e; omega) (fun z_ hz_ => by rw [hz_]; exact hb93.w)
            have hb119 := hb106.but hx109 ne99
            have hb120 : At W H108 b89 ⟨29, [.int .i64 p, .int .i64 k, u77], 3⟩ := hb110
            refine Dr.fin rfl ?_
            refine nrm_and ?_
            refine AW.seq ?_
            refine AW.draw' [0, 1, 0, 4, 12, 28, 63, 127, 255] mixed (by rfl) ?_
            have X121 := Ext.refl H108
            have y123 := hb120.lt
            have y124 : H50.bd ≤ H108.bd := X114.bd
            have ho122 := ho118.okk (ok' := fun b => (H50.bd ≤ b ∧ b ≠ b89) ∧ b < H108.bd) (fun b hb hlt => by have h1 : H50.bd ≤ b ∧ b < H78.bd := hb; exact ⟨⟨by omega, by omega⟩, hlt⟩)
            refine Dr.read 0 _ 36 _ rfl rfl rfl rfl rfl (RV.of (by intro _ _ h; cases h) (.inl rfl) (fun _ xd => HV.fa fl29_2 rfl)) ?_
            refine Dr.read 1 _ 37 _ rfl rfl rfl rfl rfl (RV.of (by intro _ _ h; cases h) (.inl rfl) (fun _ xd => HV.ld rfl va23 (rdc_ext xd (at_cell_add (j := 2) hb120 rfl)))) ?_
            refine Dr.read 2 _ 38 _ rfl rfl rfl rfl rfl (RV.of (by intro _ _ h; cases h) (.inl rfl) (fun _ xd => HV.fa fl29_1 rfl)) ?_
            refine Dr.read 3 _ 39 _ rfl rfl rfl rfl rfl (RV.of (by intro _ _ h; cases h) (.inl rfl) (fun _ xd => HV.ld rfl va2 (rdc_ext xd (at_cell_add (j := 1) hb120 rfl)))) ?_
            have y125 := hb119.lt
            have y126 := hb120.lt
            have o127 := X111.bd
            have o128 := X112.bd
            have o129 := X113.bd
            have o130 := X114.bd
            have o131 := X115.bd
            have o132 := X121.bd
            have a133 := ho122.ltb
            refine Dr.eff 4 _ _ rfl (by intro d h; cases h; exact ⟨rfl, rfl⟩) rfl rfl rfl (EC.of (by intro _ _ h; cases h) (.inl rfl) (WV.call fn83 rfl (unit_ok (W := W) k (by omega)))) (fun v H' h => .inl (h.1)) ?_
            rintro v134 H135 ⟨hx136, ho137⟩
            have q138 := Nat.le_trans q117 hx136.bd
            have X139 := Ext.trans X111 hx136
            have X140 := Ext.trans X112 hx136
            have X141 := Ext.trans X113 hx136
            have X142 := Ext.trans X114 hx136
            have X143 := Ext.trans X115 hx136
            have X144 := Ext.trans X121 hx136
            have ho145 := ho122.ext hx136
            have hb146 := hb119.ext hx136
            have hb147 := hb120.ext hx136
            have X148 := Ext.refl H135
            have y150 := hb146.lt
            have y151 := hb147.lt
            have o152 := X139.bd
            have o153 := X140.bd
            have o154 := X141.bd
            have o155 := X142.bd
            have o156 := X143.bd
            have o157 := X144.bd
            have o158 := X148.bd
            have a159 := ho145.ltb
            have a160 := ho137.ltb
            have hc165 : v134.cells = #[v134] := by obtain ⟨A, c, e⟩ := ho137.isSl; rw [e]; rfl
            refine Dr.eff 5 _ _ rfl (by intro d h; cases h; exact ⟨rfl, rfl⟩) rfl rfl rfl (EC.of (by intro _ _ h; cases h) (.inl rfl) (WV.bsO (okx := fun b => H108.bd ≤ b) (K := (kO 2 kI)) (l := ([(unitL (k : Int).toNat 0)] : List (List Int))) (css := [[v134]]) sl23 rfl rfl (by simp [Instr.fill, hc165, kO, rng1]) rfl (segs_cons ⟨_, rfl, ho137⟩ segs_nil))) (fun v H' h => .inl (h.1)) ?_
            rintro v161 H162 ⟨hx163, ho164⟩
            have q167 := Nat.le_trans q138 hx163.bd
            have X168 := Ext.trans X139 hx163
            have X169 := Ext.trans X140 hx163
            have X170 := Ext.trans X141 hx163
            have X171 := Ext.trans X142 hx163
            have X172 := Ext.trans X143 hx163
            have X173 := Ext.trans X144 hx163
            have X174 := Ext.trans X148 hx163
            have ho175 := ho145.ext hx163
            have ho176 := ho137.ext hx163
            have hb177 := hb146.ext hx163
            have hb178 := hb147.ext hx163
            have ho166 := ho164.okk (ok' := fun b => H108.bd ≤ b) (fun b hb _ => hb.elim id (fun e => Nat.le_trans X144.bd e))
            have X180 := Ext.refl H162
            refine Dr.eff 6 _ _ rfl (by intro d h; cases h; exact ⟨rfl, rfl⟩) rfl rfl rfl (EC.of (by intro _ _ h; cases h) (.inl rfl) (WV.apD (ok := fun b => (H50.bd ≤ b ∧ b ≠ b89)) (B := H108.bd) sl23 rfl rfl ho175 ho166.rd X173.bd (by rw [hpl]; omega) (by rw [hpl]; omega))) (fun v H' h => .inr (.inl rfl)) ?_
            rintro v181 H182 ⟨hx183, ho184, hb185⟩
            have ho186 := ho184.okk (ok' := fun b => (H50.bd ≤ b ∧ b ≠ b89)) (fun b hb _ => hb.elim id (fun e => by have h1 : H108.bd ≤ b := e; exact ⟨by omega, by omega⟩))
            have q187 := Nat.le_trans q167 hx183.bd
            have X188 := Ext.thru X168 hx183 (fun b hb => Nat.le_trans o73 (ho175.blk b hb).1.1.1)
            have X189 := Ext.thru X169 hx183 (fun b hb => Nat.le_trans o74 (ho175.blk b hb).1.1.1)
            have X190 := Ext.thru X170 hx183 (fun b hb => Nat.le_trans o75 (ho175.blk b hb).1.1.1)
            have X191 := Ext.thru X171 hx183 (fun b hb => Nat.le_trans o76 (ho175.blk b hb).1.1.1)
            have q193 := Nat.le_trans X172.bd hx183.bd
            have q195 := Nat.le_trans X173.bd hx183.bd
            have q197 := Nat.le_trans X174.bd hx183.bd
            have q199 := Nat.le_trans X180.bd hx183.bd
            have ho200 := ho166.but hx183 (fun b hb _ e => by have h1 : H108.bd ≤ b := hb; have h2 : (H50.bd ≤ b ∧ b ≠ b89) ∧ b < H108.bd := (ho175.blk b e).1; omega) (fun b hb => (ho175.blk b hb).2.2)
            have hb201 := hb177.but hx183 (fun e => by have q : H50.bd ≤ _ := (ho175.blk _ e).1.1.1; omega)
            have hb202 := hb178.but hx183 (fun e => by have q : (fun b => (H50.bd ≤ b ∧ b ≠ b89) ∧ b < H108.bd) b89 := (ho175.blk _ e).1; have q2 : (H50.bd ≤ b89 ∧ b89 ≠ b89) ∧ b89 < H108.bd := q; omega)
            refine Dr.read 7 _ 43 _ rfl rfl rfl rfl rfl (RV.of (by intro _ _ h; cases h) (.inl rfl) (fun _ xd => HV.fa fl29_2 rfl)) ?_
            refine Dr.eff 8 _ _ rfl (by intro d h; cases h) rfl rfl rfl (EC.of (by intro _ _ h; cases h) (.inl rfl) (WV.st rfl rfl va23 (sl_size (rd_ofO ho186.rd).isSl) hb202 (Nat.le_of_ble_eq_true rfl) (sl_one (rd_ofO ho186.rd).isSl))) (fun v H' h => .inr (.inl rfl)) ?_
            rintro _ H203 ⟨hx204, hb205⟩
            rw [sl_cells (rd_ofO ho186.rd).isSl] at hb205
            have q206 := Nat.le_trans q187 hx204.bd
            have q207 := Nat.le_trans q193 hx204.bd
            have q208 := Nat.le_trans q195 hx204.bd
            have q209 := Nat.le_trans q197 hx204.bd
            have q210 := Nat.le_trans q199 hx204.bd
            have X211 := Ext.thru X188 hx204 (fun z_ hz_ => by rw [hz_]; exact o94)
            have X212 := Ext.thru X189 hx204 (fun z_ hz_ => by rw [hz_]; exact o95)
            have X213 := Ext.thru X190 hx204 (fun z_ hz_ => by rw [hz_]; exact o96)
            have X214 := Ext.thru X191 hx204 (fun z_ hz_ => by rw [hz_]; exact o97)
            have ho215 := ho186.but hx204 (fun b hb _ e => by have hb' : (H50.bd ≤ b ∧ b ≠ b89) := hb; have e' : b = b89 := e; omega) (fun z_ hz_ => by rw [hz_]; exact hb202.w)
            have ho216 := ho200.but hx204 (fun b hb _ e => by have hb' : H108.bd ≤ b := hb; have e' : b = b89 := e; omega) (fun z_ hz_ => by rw [hz_]; exact hb202.w)
            have hb217 := hb201.but hx204 ne99
            have hb218 : At W H203 b89 ⟨29, [.int .i64 p, .int .i64 k, v181], 3⟩ := hb205
            refine Dr.fin rfl ?_
            refine nrm_and ?_
            refine AW.seq ?_
            refine AW.draw' [0, 0, 2, 0, 8, 30, 63, 127, 255, 255, 511, 2047] mixed (by rfl) ?_
            refine Dr.read 0 _ 45 _ rfl rfl rfl rfl rfl (RV.of (by intro _ _ h; cases h) (.inl rfl) (fun _ xd => HV.lda (cs := [.int .i64 p, .int .i64 k, v181]) rfl va29 (fun j u hu => rdc_ext xd ((at_cells hb218 rfl) j u hu)))) ?_
            refine Dr.read 1 _ 46 _ rfl rfl rfl rfl rfl (RV.of (by intro _ _ h; cases h) (.inl rfl) (fun _ xd => HV.mv rfl)) ?_
            refine Dr.read 3 _ 48 _ rfl rfl rfl rfl rfl (RV.of (by intro _ _ h; cases h) (.inl rfl) (fun _ xd => HV.mv rfl)) ?_
            have X219 := Ext.refl H203
            have y220 := hb217.lt
            have y221 := hb218.lt
            have o222 := X211.bd
            have o223 := X212.bd
            have o224 := X213.bd
            have o225 := X214.bd
            have o226 := X219.bd
            have a227 := ho215.ltb
            have ho228 := ho215.okk (ok' := fun b => (H50.bd ≤ b ∧ b ≠ b89) ∧ b < H203.bd) (fun b hb hlt => ⟨hb, hlt⟩)
            have a229 := ho216.ltb
            have X234 := Ext.refl H203
            have y235 := hb217.lt
            have y236 := hb218.lt
            have o237 := X211.bd
            have o238 := X212.bd
            have o239 := X213.bd
            have o240 := X214.bd
            have o241 := X234.bd
            have a242 := ho215.ltb
            have ho243 := ho215.okk (ok' := fun b => (H50.bd ≤ b ∧ b ≠ b89) ∧ b < H203.bd) (fun b hb hlt => ⟨hb, hlt⟩)
            have a244 := ho216.ltb
            refine Dr.eff2 2 4 _ _ _ _  rfl rfl  (by intro d h; cases h; exact ⟨rfl, rfl⟩) (by intro d h; cases h; exact ⟨rfl, rfl⟩) rfl rfl  rfl rfl rfl  (EC.of (by intro _ _ h; cases h) (.inl rfl) (WV.call fn87 rfl (cloneI_ok (hrh.ext X211) (by omega)))) (EC.of (by intro _ _ h; cases h) (.inl rfl) (WV.bsK (K := kI) (l := ([s] : List Int)) (css := [[.int .i64 s]]) sl22 rfl rfl (by first | rfl | (simp [Instr.fill, Value.cells, kI, kB, kU, kU8, kS, Kd.sc]; done) | (simp [Instr.fill, Value.cells, kI, kB, kU, kU8, kS, Kd.sc, rng1, rng2, rng3, rng4, kP])) rfl (segs_cons rfl segs_nil))) (fun v H' h => .inl (h.1)) (fun v H' h => .inl (h.1)) ?_ ?_ 
            · -- 2 first
              have X249 := Ext.refl H203
              have y250 := hb217.lt
              have y251 := hb218.lt
              have o252 := X211.bd
              have o253 := X212.bd
              have o254 := X213.bd
              have o255 := X214.bd
              have o256 := X249.bd
              have a257 := ho215.ltb
              have ho258 := ho215.okk (ok' := fun b => (H50.bd ≤ b ∧ b ≠ b89) ∧ b < H203.bd) (fun b hb hlt => ⟨hb, hlt⟩)
              have a259 := ho216.ltb
              rintro v260 H261 ⟨hx262, ho263⟩
              have q264 := Nat.le_trans q206 hx262.bd
              have q265 := Nat.le_trans q207 hx262.bd
              have q266 := Nat.le_trans q208 hx262.bd
              have q267 := Nat.le_trans q209 hx262.bd
              have q268 := Nat.le_trans q210 hx262.bd
              have X269 := Ext.trans X211 hx262
              have X270 := Ext.trans X212 hx262
              have X271 := Ext.trans X213 hx262
              have X272 := Ext.trans X214 hx262
              have X273 := Ext.trans X249 hx262
              have ho274 := ho258.ext hx262
              have ho275 := ho216.ext hx262
              have hb276 := hb217.ext hx262
              have hb277 := hb218.ext hx262
              have X279 := Ext.refl H261
              have y280 := hb276.lt
              have y281 := hb277.lt
              have o282 := X269.bd
              have o283 := X270.bd
              have o284 := X271.bd
              have o285 := X272.bd
              have o286 := X273.bd
              have o287 := X279.bd
              have a288 := ho274.ltb
              have a289 := ho275.ltb
              have a290 := ho263.ltb
              refine Dr.eff 4 _ _ rfl (by intro d h; cases h; exact ⟨rfl, rfl⟩) rfl rfl rfl (EC.of (by intro _ _ h; cases h) (.inl rfl) (WV.bsK (K := kI) (l := ([s] : List Int)) (css := [[.int .i64 s]]) sl22 rfl rfl (by first | rfl | (simp [Instr.fill, Value.cells, kI, kB, kU, kU8, kS, Kd.sc]; done) | (simp [Instr.fill, Value.cells, kI, kB, kU, kU8, kS, Kd.sc, rng1, rng2, rng3, rng4, kP])) rfl (segs_cons rfl segs_nil))) (fun v H' h => .inl (h.1)) ?_
              rintro v291 H292 ⟨hx293, ho294⟩
              have q295 := Nat.le_trans q264 hx293.bd
              have q296 := Nat.le_trans q265 hx293.bd
              have q297 := Nat.le_trans q266 hx293.bd
              have q298 := Nat.le_trans q267 hx293.bd
              have q299 := Nat.le_trans q268 hx293.bd
              have X300 := Ext.trans X269 hx293
              have X301 := Ext.trans X270 hx293
              have X302 := Ext.trans X271 hx293
              have X303 := Ext.trans X272 hx293
              have X304 := Ext.trans X273 hx293
              have X305 := Ext.trans X279 hx293
              have ho306 := ho274.ext hx293
              have ho307 := ho275.ext hx293
              have ho308 := ho263.ext hx293
              have hb309 := hb276.ext hx293
              have hb310 := hb277.ext hx293
              have X312 := Ext.refl H292
              refine Dr.eff 5 _ _ rfl (by intro d h; cases h; exact ⟨rfl, rfl⟩) rfl rfl rfl (EC.of (by intro _ _ h; cases h) (.inl rfl) (WV.apk sl22 rfl rfl ho308 ho294.rd (by simp; omega) (by simp; omega) (fun b hb _ e => Nat.lt_irrefl _ (Nat.lt_of_lt_of_le (a290 b e) hb)))) ?_ ?_
              · -- kept
                rintro v313 H314 ⟨hx315, ho316, hb317⟩
                have ho318 := ho316.narrow (ok' := fun b => H203.bd ≤ b) kI_flat (fun b q => (hb317 b q).elim (fun e => (ho308.blk b e).1) (fun e => Nat.le_trans X304.bd e))
                have q319 := Nat.le_trans q295 hx315.bd
                have q320 := Nat.le_trans q296 hx315.bd
                have q321 := Nat.le_trans q297 hx315.bd
                have q322 := Nat.le_trans q298 hx315.bd
                have q323 := Nat.le_trans q299 hx315.bd
                have X324 := Ext.thru X300 hx315 (fun b hb => Nat.le_trans o252 (ho308.blk b hb).1)
                have X325 := Ext.thru X301 hx315 (fun b hb => Nat.le_trans o253 (ho308.blk b hb).1)
                have X326 := Ext.thru X302 hx315 (fun b hb => Nat.le_trans o254 (ho308.blk b hb).1)
                have X327 := Ext.thru X303 hx315 (fun b hb => Nat.le_trans o255 (ho308.blk b hb).1)
                have X328 := Ext.thru X304 hx315 (fun b hb => Nat.le_trans o256 (ho308.blk b hb).1)
                have q330 := Nat.le_trans X305.bd hx315.bd
                have q332 := Nat.le_trans X312.bd hx315.bd
                have ho333 := ho306.but hx315 (fun b hb _ e => by have h1 : (H50.bd ≤ b ∧ b ≠ b89) ∧ b < H203.bd := hb; have h2 : H203.bd ≤ b := (ho308.blk b e).1; omega) (fun b hb => (ho308.blk b hb).2.2)
                have hb336 := hb309.but hx315 (fun e => by have q : H203.bd ≤ _ := (ho308.blk _ e).1; omega)
                have hb337 := hb310.but hx315 (fun e => by have q : H203.bd ≤ _ := (ho308.blk _ e).1; omega)
                refine .inr (.inr ?_)
                exact (kept_cons (.inl rfl) (kept_cons (.inl rfl) (kept_cons (.inr ⟨_, _, _, rfl, rfl, rfl, (RV.of (by intro _ _ h; cases h) (.inl rfl) (fun _ xd => HV.lda (cs := [.int .i64 p, .int .i64 k, v181]) rfl va29 (fun j u hu => rdc_ext xd ((at_cells hb337 rfl) j u hu))))⟩) kept_nil)))
              rintro v313 H314 ⟨hx315, ho316, hb317⟩
              have ho318 := ho316.narrow (ok' := fun b => H203.bd ≤ b) kI_flat (fun b q => (hb317 b q).elim (fun e => (ho308.blk b e).1) (fun e => Nat.le_trans X304.bd e))
              have q338 := Nat.le_trans q295 hx315.bd
              have q339 := Nat.le_trans q296 hx315.bd
              have q340 := Nat.le_trans q297 hx315.bd
              have q341 := Nat.le_trans q298 hx315.bd
              have q342 := Nat.le_trans q299 hx315.bd
              have X343 := Ext.thru X300 hx315 (fun b hb => Nat.le_trans o252 (ho308.blk b hb).1)
              have X344 := Ext.thru X301 hx315 (fun b hb => Nat.le_trans o253 (ho308.blk b hb).1)
              have X345 := Ext.thru X302 hx315 (fun b hb => Nat.le_trans o254 (ho308.blk b hb).1)
              have X346 := Ext.thru X303 hx315 (fun b hb => Nat.le_trans o255 (ho308.blk b hb).1)
              have X347 := Ext.thru X304 hx315 (fun b hb => Nat.le_trans o256 (ho308.blk b hb).1)
              have q349 := Nat.le_trans X305.bd hx315.bd
              have q351 := Nat.le_trans X312.bd hx315.bd
              have ho352 := ho306.but hx315 (fun b hb _ e => by have h1 : (H50.bd ≤ b ∧ b ≠ b89) ∧ b < H203.bd := hb; have h2 : H203.bd ≤ b := (ho308.blk b e).1; omega) (fun b hb => (ho308.blk b hb).2.2)
              have hb355 := hb309.but hx315 (fun e => by have q : H203.bd ≤ _ := (ho308.blk _ e).1; omega)
              have hb356 := hb310.but hx315 (fun e => by have q : H203.bd ≤ _ := (ho308.blk _ e).1; omega)
              have X357 := Ext.refl H314
              have y358 := hb355.lt
              have y359 := hb356.lt
              have o360 := X343.bd
              have o361 := X344.bd
              have o362 := X345.bd
              have o363 := X346.bd
              have o364 := X347.bd
              have o365 := X357.bd
              have a366 := ho352.ltb
              have a367 := ho318.ltb
              refine Dr.eff 6 _ _ rfl (by intro d h; cases h; exact ⟨rfl, rfl⟩) rfl rfl rfl (EC.of (by intro _ _ h; cases h) (.inl rfl) (WV.call fn75 rfl (implSol_ok p k (rd_ofO ho352.rd) ho318.rd hF.q hk0 cr1 (by omega) (by rw [cr2]; omega) cr3 cr4))) (fun v H' h => .inl (h.2)) ?_
              rintro _ H369 ⟨⟨v368, rfl, hv371⟩, hx370⟩
              have q372 := Nat.le_trans q338 hx370.bd
              have q373 := Nat.le_trans q339 hx370.bd
              have q374 := Nat.le_trans q340 hx370.bd
              have q375 := Nat.le_trans q341 hx370.bd
              have q376 := Nat.le_trans q342 hx370.bd
              have q377 := Nat.le_trans q349 hx370.bd
              have q378 := Nat.le_trans q351 hx370.bd
              have X379 := Ext.trans X343 hx370
              have X380 := Ext.trans X344 hx370
              have X381 := Ext.trans X345 hx370
              have X382 := Ext.trans X346 hx370
              have X383 := Ext.trans X347 hx370
              have X384 := Ext.trans X357 hx370
              have ho385 := ho352.ext hx370
              have ho386 := ho318.ext hx370
              have hb387 := hb355.ext hx370
              have hb388 := hb356.ext hx370
              have X389 := Ext.refl H369
              refine Dr.read 7 _ 44 _ rfl rfl rfl rfl rfl (RV.of (by intro _ _ h; cases h) (.inl rfl) (fun _ xd => HV.mv rfl)) ?_
              refine Dr.read 8 _ 52 _ rfl rfl rfl rfl rfl (RV.of (by intro _ _ h; cases h) (.inl rfl) (fun _ xd => HV.ex rfl rfl)) ?_
              refine Dr.read 9 _ 53 _ rfl rfl rfl rfl rfl (RV.of (by intro _ _ h; cases h) (.inl rfl) (fun _ xd => HV.ex rfl rfl)) ?_
              refine Dr.read 10 _ 12 _ rfl rfl rfl rfl rfl (RV.of (by intro _ _ h; cases h) (.inl rfl) (fun _ xd => HV.as rfl)) ?_
              refine Dr.read 11 _ 13 _ rfl rfl rfl rfl rfl (RV.of (by intro _ _ h; cases h) (.inl rfl) (fun _ xd => HV.as rfl)) ?_
              refine Dr.fin rfl ?_
              refine nrm_and ?_
              refine AW.seq ?_
              refine AW.rs ?_
              refine AL.val rfl (.inl rfl) (HV.mv rfl) ?_
              refine AL.val rfl (.inl rfl) (HV.not rfl) ?_
              refine AL.nx ?_
              refine AW.cond rfl (fun c391 => ?_) (fun c391 => ?_)
              · -- then
                refine AW.rs ?_
                refine AL.val rfl (.inl rfl) (HV.as rfl) ?_
                refine AL.val rfl (.inl rfl) (HV.as rfl) ?_
                refine AL.nx ?_
                refine AW.ret ?_
                refine ret_and ?_
                refine post_two rfl rfl rfl ?_ (.inr rfl)
                have hcp := cp_6 hwz hsb (show (cpM o p k l g h s).2 = false from bnot_t c391); exact ⟨⟨_, by rw [hcp.1], by rw [hcp.2]; exact .inl (OwnK.nil _)⟩, X379⟩
              · -- else
                refine AW.skip ?_
                refine nrm_and ?_
                refine AW.rs ?_
                have hb0 : (cpM o p k l g h s).2 = true := bnot_f c391
                have hsl := cr5 hb0
                unfold cpM cpR at hsl
                refine AL.val rfl (.inl rfl) (HV.mv rfl) ?_
                obtain ⟨v392, ho393, hP394⟩ := OwnT.cut hv371 (by omega) sl22
                refine AL.val rfl (.inl rfl) (hP394 rfl rfl) ?_
                refine AL.val rfl (.inl rfl) (HV.as rfl) ?_
                refine AL.val rfl (.inl rfl) (HV.as rfl) ?_
                refine AL.nx ?_
                refine AW.ret ?_
                refine post_two rfl rfl rfl ?_ (.inr rfl)
                have hcp := cp_0 hwz hsb hb0; exact ⟨⟨_, by rw [hcp.1], by rw [hcp.2]; exact ho393.okk (fun b hb _ => Nat.le_trans o360 hb)⟩, X379⟩
            · -- 4 first
              have X395 := Ext.refl H203
              have y396 := hb217.lt
              have y397 := hb218.lt
              have o398 := X211.bd
              have o399 := X212.bd
              have o400 := X213.bd
              have o401 := X214.bd
              have o402 := X395.bd
              have a403 := ho215.ltb
              have ho404 := ho215.okk (ok' := fun b => (H50.bd ≤ b ∧ b ≠ b89) ∧ b < H203.bd) (fun b hb hlt => ⟨hb, hlt⟩)
              have a405 := ho216.ltb
              rintro v406 H407 ⟨hx408, ho409⟩
              have q410 := Nat.le_trans q206 hx408.bd
              have q411 := Nat.le_trans q207 hx408.bd
              have q412 := Nat.le_trans q208 hx408.bd
              have q413 := Nat.le_trans q209 hx408.bd
              have q414 := Nat.le_trans q210 hx408.bd
              have X415 := Ext.trans X211 hx408
              have X416 := Ext.trans X212 hx408
              have X417 := Ext.trans X213 hx408
              have X418 := Ext.trans X214 hx408
              have X419 := Ext.trans X395 hx408
              have ho420 := ho404.ext hx408
              have ho421 := ho216.ext hx408
              have hb422 := hb217.ext hx408
              have hb423 := hb218.ext hx408
              have X425 := Ext.refl H407
              have y426 := hb422.lt
              have y427 := hb423.lt
              have o428 := X415.bd
              have o429 := X416.bd
              have o430 := X417.bd
              have o431 := X418.bd
              have o432 := X419.bd
              have o433 := X425.bd
              have a434 := ho420.ltb
              have a435 := ho421.ltb
              have a436 := ho409.ltb
              refine Dr.eff 2 _ _ rfl (by intro d h; cases h; exact ⟨rfl, rfl⟩) rfl rfl rfl (EC.of (by intro _ _ h; cases h) (.inl rfl) (WV.call fn87 rfl (cloneI_ok (hrh.ext X415) (by omega)))) (fun v H' h => .inl (h.1)) ?_
              rintro v437 H438 ⟨hx439, ho440⟩
              have q441 := Nat.le_trans q410 hx439.bd
              have q442 := Nat.le_trans q411 hx439.bd
              have q443 := Nat.le_trans q412 hx439.bd
              have q444 := Nat.le_trans q413 hx439.bd
              have q445 := Nat.le_trans q414 hx439.bd
              have X446 := Ext.trans X415 hx439
              have X447 := Ext.trans X416 hx439
              have X448 := Ext.trans X417 hx439
              have X449 := Ext.trans X418 hx439
              have X450 := Ext.trans X419 hx439
              have X451 := Ext.trans X425 hx439
              have ho452 := ho420.ext hx439
              have ho453 := ho421.ext hx439
              have ho454 := ho409.ext hx439
              have hb455 := hb422.ext hx439
              have hb456 := hb423.ext hx439
              have X458 := Ext.refl H438
              refine Dr.eff 5 _ _ rfl (by intro d h; cases h; exact ⟨rfl, rfl⟩) rfl rfl rfl (EC.of (by intro _ _ h; cases h) (.inl rfl) (WV.apk sl22 rfl rfl ho440 (OwnK.narrow (ok' := fun b => some b = v406.ownBlock) kI_flat ho454 (fun b q => q)).rd (by simp; omega) (by simp; omega) (fun b hb _ e => by have h1 := a436 b hb; have h2 : H407.bd ≤ b := (ho440.blk b e).1; omega))) ?_ ?_
              · -- kept
                rintro v459 H460 ⟨hx461, ho462, hb463⟩
                have ho464 := ho462.narrow (ok' := fun b => H407.bd ≤ b) kI_flat (fun b q => (hb463 b q).elim (fun e => (ho440.blk b e).1) (fun e => Nat.le_trans X451.bd e))
                have q465 := Nat.le_trans q441 hx461.bd
                have q466 := Nat.le_trans q442 hx461.bd
                have q467 := Nat.le_trans q443 hx461.bd
                have q468 := Nat.le_trans q444 hx461.bd
                have q469 := Nat.le_trans q445 hx461.bd
                have X470 := Ext.thru X446 hx461 (fun b hb => Nat.le_trans o428 (ho440.blk b hb).1)
                have X471 := Ext.thru X447 hx461 (fun b hb => Nat.le_trans o429 (ho440.blk b hb).1)
                have X472 := Ext.thru X448 hx461 (fun b hb => Nat.le_trans o430 (ho440.blk b hb).1)
                have X473 := Ext.thru X449 hx461 (fun b hb => Nat.le_trans o431 (ho440.blk b hb).1)
                have X474 := Ext.thru X450 hx461 (fun b hb => Nat.le_trans o432 (ho440.blk b hb).1)
                have X475 := Ext.thru X451 hx461 (fun b hb => Nat.le_trans o433 (ho440.blk b hb).1)
                have q477 := Nat.le_trans X458.bd hx461.bd
                have ho478 := ho452.but hx461 (fun b hb _ e => by have h1 : (H50.bd ≤ b ∧ b ≠ b89) ∧ b < H203.bd := hb; have h2 : H407.bd ≤ b := (ho440.blk b e).1; omega) (fun b hb => (ho440.blk b hb).2.2)
                have hb481 := hb455.but hx461 (fun e => by have q : H407.bd ≤ _ := (ho440.blk _ e).1; omega)
                have hb482 := hb456.but hx461 (fun e => by have q : H407.bd ≤ _ := (ho440.blk _ e).1; omega)
                refine .inr (.inr ?_)
                exact (kept_cons (.inl rfl) (kept_cons (.inl rfl) (kept_cons (.inr ⟨_, _, _, rfl, rfl, rfl, (RV.of (by intro _ _ h; cases h) (.inl rfl) (fun _ xd => HV.lda (cs := [.int .i64 p, .int .i64 k, v181]) rfl va29 (fun j u hu => rdc_ext xd ((at_cells hb482 rfl) j u hu))))⟩) kept_nil)))
              rintro v459 H460 ⟨hx461, ho462, hb463⟩
              have ho464 := ho462.narrow (ok' := fun b => H407.bd ≤ b) kI_flat (fun b q => (hb463 b q).elim (fun e => (ho440.blk b e).1) (fun e => Nat.le_trans X451.bd e))
              have q483 := Nat.le_trans q441 hx461.bd
              have q484 := Nat.le_trans q442 hx461.bd
              have q485 := Nat.le_trans q443 hx461.bd
              have q486 := Nat.le_trans q444 hx461.bd
              have q487 := Nat.le_trans q445 hx461.bd
              have X488 := Ext.thru X446 hx461 (fun b hb => Nat.le_trans o428 (ho440.blk b hb).1)
              have X489 := Ext.thru X447 hx461 (fun b hb => Nat.le_trans o429 (ho440.blk b hb).1)
              have X490 := Ext.thru X448 hx461 (fun b hb => Nat.le_trans o430 (ho440.blk b hb).1)
              have X491 := Ext.thru X449 hx461 (fun b hb => Nat.le_trans o431 (ho440.blk b hb).1)
              have X492 := Ext.thru X450 hx461 (fun b hb => Nat.le_trans o432 (ho440.blk b hb).1)
              have X493 := Ext.thru X451 hx461 (fun b hb => Nat.le_trans o433 (ho440.blk b hb).1)
              have q495 := Nat.le_trans X458.bd hx461.bd
              have ho496 := ho452.but hx461 (fun b hb _ e => by have h1 : (H50.bd ≤ b ∧ b ≠ b89) ∧ b < H203.bd := hb; have h2 : H407.bd ≤ b := (ho440.blk b e).1; omega) (fun b hb => (ho440.blk b hb).2.2)
              have hb499 := hb455.but hx461 (fun e => by have q : H407.bd ≤ _ := (ho440.blk _ e).1; omega)
              have hb500 := hb456.but hx461 (fun e => by have q : H407.bd ≤ _ := (ho440.blk _ e).1; omega)
              have X501 := Ext.refl H460
              have y502 := hb499.lt
              have y503 := hb500.lt
              have o504 := X488.bd
              have o505 := X489.bd
              have o506 := X490.bd
              have o507 := X491.bd
              have o508 := X492.bd
              have o509 := X493.bd
              have o510 := X501.bd
              have a511 := ho496.ltb
              have a512 := ho464.ltb
              refine Dr.eff 6 _ _ rfl (by intro d h; cases h; exact ⟨rfl, rfl⟩) rfl rfl rfl (EC.of (by intro _ _ h; cases h) (.inl rfl) (WV.call fn75 rfl (implSol_ok p k (rd_ofO ho496.rd) ho464.rd hF.q hk0 cr1 (by omega) (by rw [cr2]; omega) cr3 cr4))) (fun v H' h => .inl (h.2)) ?_
              rintro _ H514 ⟨⟨v513, rfl, hv516⟩, hx515⟩
              have q517 := Nat.le_trans q483 hx515.bd
              have q518 := Nat.le_trans q484 hx515.bd
              have q519 := Nat.le_trans q485 hx515.bd
              have q520 := Nat.le_trans q486 hx515.bd
              have q521 := Nat.le_trans q487 hx515.bd
              have q522 := Nat.le_trans q495 hx515.bd
              have X523 := Ext.trans X488 hx515
              have X524 := Ext.trans X489 hx515
              have X525 := Ext.trans X490 hx515
              have X526 := Ext.trans X491 hx515
              have X527 := Ext.trans X492 hx515
              have X528 := Ext.trans X493 hx515
              have X529 := Ext.trans X501 hx515
              have ho530 := ho496.ext hx515
              have ho531 := ho464.ext hx515
              have hb532 := hb499.ext hx515
              have hb533 := hb500.ext hx515
              have X534 := Ext.refl H514
              refine Dr.read 7 _ 44 _ rfl rfl rfl rfl rfl (RV.of (by intro _ _ h; cases h) (.inl rfl) (fun _ xd => HV.mv rfl)) ?_
              refine Dr.read 8 _ 52 _ rfl rfl rfl rfl rfl (RV.of (by intro _ _ h; cases h) (.inl rfl) (fun _ xd => HV.ex rfl rfl)) ?_
              refine Dr.read 9 _ 53 _ rfl rfl rfl rfl rfl (RV.of (by intro _ _ h; cases h) (.inl rfl) (fun _ xd => HV.ex rfl rfl)) ?_
              refine Dr.read 10 _ 12 _ rfl rfl rfl rfl rfl (RV.of (by intro _ _ h; cases h) (.inl rfl) (fun _ xd => HV.as rfl)) ?_
              refine Dr.read 11 _ 13 _ rfl rfl rfl rfl rfl (RV.of (by intro _ _ h; cases h) (.inl rfl) (fun _ xd => HV.as rfl)) ?_
              refine Dr.fin rfl ?_
              refine nrm_and ?_
              refine AW.seq ?_
              refine AW.rs ?_
              refine AL.val rfl (.inl rfl) (HV.mv rfl) ?_
              refine AL.val rfl (.inl rfl) (HV.not rfl) ?_
              refine AL.nx ?_
              refine AW.cond rfl (fun c536 => ?_) (fun c536 => ?_)
              · -- then
                refine AW.rs ?_
                refine AL.val rfl (.inl rfl) (HV.as rfl) ?_
                refine AL.val rfl (.inl rfl) (HV.as rfl) ?_
                refine AL.nx ?_
                refine AW.ret ?_
                refine ret_and ?_
                refine post_two rfl rfl rfl ?_ (.inr rfl)
                have hcp := cp_6 hwz hsb (show (cpM o p k l g h s).2 = false from bnot_t c536); exact ⟨⟨_, by rw [hcp.1], by rw [hcp.2]; exact .inl (OwnK.nil _)⟩, X523⟩
              · -- else
                refine AW.skip ?_
                refine nrm_and ?_
                refine AW.rs ?_
                have hb0 : (cpM o p k l g h s).2 = true := bnot_f c536
                have hsl := cr5 hb0
                unfold cpM cpR at hsl
                refine AL.val rfl (.inl rfl) (HV.mv rfl) ?_
                obtain ⟨v537, ho538, hP539⟩ := OwnT.cut hv516 (by omega) sl22
                refine AL.val rfl (.inl rfl) (hP539 rfl rfl) ?_
                refine AL.val rfl (.inl rfl) (HV.as rfl) ?_
                refine AL.val rfl (.inl rfl) (HV.as rfl) ?_
                refine AL.nx ?_
                refine AW.ret ?_
                refine post_two rfl rfl rfl ?_ (.inr rfl)
                have hcp := cp_0 hwz hsb hb0; exact ⟨⟨_, by rw [hcp.1], by rw [hcp.2]; exact ho538.okk (fun b hb _ => Nat.le_trans o504 hb)⟩, X523⟩
          · -- 4 first
            rintro _ H541 ⟨b540, rfl, hx542, hn543, hb544⟩
            have o545 := Nat.le_trans X52.bd hn543
            have o546 := Nat.le_trans X53.bd hn543
            have o547 := Nat.le_trans X54.bd hn543
            have ne548 : b5 ≠ b540 := by have := hb55.lt; omega
            have X549 := Ext.trans X52 hx542
            have X550 := Ext.trans X53 hx542
            have X551 := Ext.trans X54 hx542
            have hb552 := hb55.ext hx542
            have X553 := Ext.refl H541
            have y554 := hb552.lt
            have y555 := hb544.lt
            have o556 := X549.bd
            have o557 := X550.bd
            have o558 := X551.bd
            have o559 := X553.bd
            refine Dr.eff 3 _ _ rfl (by intro d h; cases h; exact ⟨rfl, rfl⟩) rfl rfl rfl (EC.of (by intro _ _ h; cases h) (.inl rfl) (WV.call fn73 rfl (held_ok n p k (ho.ext X549) (hr.ext X549) hok hg))) (fun v H' h => .inl (h.2)) ?_
            rintro _ H561 ⟨⟨u560, rfl, ho563⟩, hx562⟩
            have X564 := Ext.trans X549 hx562
            have X565 := Ext.trans X550 hx562
            have X566 := Ext.trans X551 hx562
            have X567 := Ext.trans X553 hx562
            have hb568 := hb552.ext hx562
            have hb569 := hb544.ext hx562
            have X570 := Ext.refl H561
            refine Dr.eff 5 _ _ rfl (by intro d h; cases h) rfl rfl rfl (EC.of (by intro _ _ h; cases h) (.inl rfl) (WV.st rfl rfl va29 rfl hb569 (Nat.le_of_ble_eq_true rfl) (one_cons rfl (one_cons rfl (one_cons (sl_one1 (rd_ofO ho563.rd).isSl) one_nil))))) (fun v H' h => .inr (.inl rfl)) ?_
            rintro _ H572 ⟨hx573, hb574⟩
            have X575 := Ext.thru X564 hx573 (fun z_ hz_ => by rw [hz_]; exact o545)
            have X576 := Ext.thru X565 hx573 (fun z_ hz_ => by rw [hz_]; exact o546)
            have X577 := Ext.thru X566 hx573 (fun z_ hz_ => by rw [hz_]; exact o547)
            have q579 := Nat.le_trans X567.bd hx573.bd
            have q581 := Nat.le_trans X570.bd hx573.bd
            have ho582 := ho563.but hx573 (fun b hb _ e => by have hb' : H541.bd ≤ b := hb; have e' : b = b540 := e; omega) (fun z_ hz_ => by rw [hz_]; exact hb569.w)
            have hb583 := hb568.but hx573 ne548
            have hb584 : At W H572 b540 ⟨29, [.int .i64 p, .int .i64 k, u560], 3⟩ := hb574
            refine Dr.fin rfl ?_
            refine nrm_and ?_
            refine AW.seq ?_
            refine AW.draw' [0, 1, 0, 4, 12, 28, 63, 127, 255] mixed (by rfl) ?_
            have X585 := Ext.refl H572
            have y587 := hb584.lt
            have y588 : H541.bd ≤ H572.bd := q579
            have ho586 := ho582.okk (ok' := fun b => (H541.bd ≤ b ∧ b ≠ b540) ∧ b < H572.bd) (fun b hb hlt => by have h1 : H541.bd ≤ b := hb; exact ⟨⟨by omega, by omega⟩, hlt⟩)
            refine Dr.read 0 _ 36 _ rfl rfl rfl rfl rfl (RV.of (by intro _ _ h; cases h) (.inl rfl) (fun _ xd => HV.fa fl29_2 rfl)) ?_
            refine Dr.read 1 _ 37 _ rfl rfl rfl rfl rfl (RV.of (by intro _ _ h; cases h) (.inl rfl) (fun _ xd => HV.ld rfl va23 (rdc_ext xd (at_cell_add (j := 2) hb584 rfl)))) ?_
            refine Dr.read 2 _ 38 _ rfl rfl rfl rfl rfl (RV.of (by intro _ _ h; cases h) (.inl rfl) (fun _ xd => HV.fa fl29_1 rfl)) ?_
            refine Dr.read 3 _ 39 _ rfl rfl rfl rfl rfl (RV.of (by intro _ _ h; cases h) (.inl rfl) (fun _ xd => HV.ld rfl va2 (rdc_ext xd (at_cell_add (j := 1) hb584 rfl)))) ?_
            have y589 := hb583.lt
            have y590 := hb584.lt
            have o591 := X575.bd
            have o592 := X576.bd
            have o593 := X577.bd
            have o594 := X585.bd
            have a595 := ho586.ltb
            refine Dr.eff 4 _ _ rfl (by intro d h; cases h; exact ⟨rfl, rfl⟩) rfl rfl rfl (EC.of (by intro _ _ h; cases h) (.inl rfl) (WV.call fn83 rfl (unit_ok (W := W) k (by omega)))) (fun v H' h => .inl (h.1)) ?_
            rintro v596 H597 ⟨hx598, ho599⟩
            have q600 := Nat.le_trans q579 hx598.bd
            have q601 := Nat.le_trans q581 hx598.bd
            have X602 := Ext.trans X575 hx598
            have X603 := Ext.trans X576 hx598
            have X604 := Ext.trans X577 hx598
            have X605 := Ext.trans X585 hx598
            have ho606 := ho586.ext hx598
            have hb607 := hb583.ext hx598
            have hb608 := hb584.ext hx598
            have X609 := Ext.refl H597
            have y611 := hb607.lt
            have y612 := hb608.lt
            have o613 := X602.bd
            have o614 := X603.bd
            have o615 := X604.bd
            have o616 := X605.bd
            have o617 := X609.bd
            have a618 := ho606.ltb
            have a619 := ho599.ltb
            have hc624 : v596.cells = #[v596] := by obtain ⟨A, c, e⟩ := ho599.isSl; rw [e]; rfl
            refine Dr.eff 5 _ _ rfl (by intro d h; cases h; exact ⟨rfl, rfl⟩) rfl rfl rfl (EC.of (by intro _ _ h; cases h) (.inl rfl) (WV.bsO (okx := fun b => H572.bd ≤ b) (K := (kO 2 kI)) (l := ([(unitL (k : Int).toNat 0)] : List (List Int))) (css := [[v596]]) sl23 rfl rfl (by simp [Instr.fill, hc624, kO, rng1]) rfl (segs_cons ⟨_, rfl, ho599⟩ segs_nil))) (fun v H' h => .inl (h.1)) ?_
            rintro v620 H621 ⟨hx622, ho623⟩
            have q626 := Nat.le_trans q600 hx622.bd
            have q627 := Nat.le_trans q601 hx622.bd
            have X628 := Ext.trans X602 hx622
            have X629 := Ext.trans X603 hx622
            have X630 := Ext.trans X604 hx622
            have X631 := Ext.trans X605 hx622
            have X632 := Ext.trans X609 hx622
            have ho633 := ho606.ext hx622
            have ho634 := ho599.ext hx622
            have hb635 := hb607.ext hx622
            have hb636 := hb608.ext hx622
            have ho625 := ho623.okk (ok' := fun b => H572.bd ≤ b) (fun b hb _ => hb.elim id (fun e => Nat.le_trans X605.bd e))
            have X638 := Ext.refl H621
            refine Dr.eff 6 _ _ rfl (by intro d h; cases h; exact ⟨rfl, rfl⟩) rfl rfl rfl (EC.of (by intro _ _ h; cases h) (.inl rfl) (WV.apD (ok := fun b => (H541.bd ≤ b ∧ b ≠ b540)) (B := H572.bd) sl23 rfl rfl ho633 ho625.rd X631.bd (by rw [hpl]; omega) (by rw [hpl]; omega))) (fun v H' h => .inr (.inl rfl)) ?_
            rintro v639 H640 ⟨hx641, ho642, hb643⟩
            have ho644 := ho642.okk (ok' := fun b => (H541.bd ≤ b ∧ b ≠ b540)) (fun b hb _ => hb.elim id (fun e => by have h1 : H572.bd ≤ b := e; exact ⟨by omega, by omega⟩))
            have q645 := Nat.le_trans q626 hx641.bd
            have q646 := Nat.le_trans q627 hx641.bd
            have X647 := Ext.thru X628 hx641 (fun b hb => Nat.le_trans o556 (ho633.blk b hb).1.1.1)
            have X648 := Ext.thru X629 hx641 (fun b hb => Nat.le_trans o557 (ho633.blk b hb).1.1.1)
            have X649 := Ext.thru X630 hx641 (fun b hb => Nat.le_trans o558 (ho633.blk b hb).1.1.1)
            have q651 := Nat.le_trans X631.bd hx641.bd
            have q653 := Nat.le_trans X632.bd hx641.bd
            have q655 := Nat.le_trans X638.bd hx641.bd
            have ho656 := ho625.but hx641 (fun b hb _ e => by have h1 : H572.bd ≤ b := hb; have h2 : (H541.bd ≤ b ∧ b ≠ b540) ∧ b < H572.bd := (ho633.blk b e).1; omega) (fun b hb => (ho633.blk b hb).2.2)
            have hb657 := hb635.but hx641 (fun e => by have q : H541.bd ≤ _ := (ho633.blk _ e).1.1.1; omega)
            have hb658 := hb636.but hx641 (fun e => by have q : H541.bd ≤ _ := (ho633.blk _ e).1.1.1; omega)
            refine Dr.read 7 _ 43 _ rfl rfl rfl rfl rfl (RV.of (by intro _ _ h; cases h) (.inl rfl) (fun _ xd => HV.fa fl29_2 rfl)) ?_
            refine Dr.eff 8 _ _ rfl (by intro d h; cases h) rfl rfl rfl (EC.of (by intro _ _ h; cases h) (.inl rfl) (WV.st rfl rfl va23 (sl_size (rd_ofO ho644.rd).isSl) hb658 (Nat.le_of_ble_eq_true rfl) (sl_one (rd_ofO ho644.rd).isSl))) (fun v H' h => .inr (.inl rfl)) ?_
            rintro _ H659 ⟨hx660, hb661⟩
            rw [sl_cells (rd_ofO ho644.rd).isSl] at hb661
            have q662 := Nat.le_trans q645 hx660.bd
            have q663 := Nat.le_trans q646 hx660.bd
            have q664 := Nat.le_trans q651 hx660.bd
            have q665 := Nat.le_trans q653 hx660.bd
            have q666 := Nat.le_trans q655 hx660.bd
            have X667 := Ext.thru X647 hx660 (fun z_ hz_ => by rw [hz_]; exact o545)
            have X668 := Ext.thru X648 hx660 (fun z_ hz_ => by rw [hz_]; exact o546)
            have X669 := Ext.thru X649 hx660 (fun z_ hz_ => by rw [hz_]; exact o547)
            have ho670 := ho644.but hx660 (fun b hb _ e => by have hb' : (H541.bd ≤ b ∧ b ≠ b540) := hb; have e' : b = b540 := e; omega) (fun z_ hz_ => by rw [hz_]; exact hb658.w)
            have ho671 := ho656.but hx660 (fun b hb _ e => by have hb' : H572.bd ≤ b := hb; have e' : b = b540 := e; omega) (fun z_ hz_ => by rw [hz_]; exact hb658.w)
            have hb672 := hb657.but hx660 ne548
            have hb673 : At W H659 b540 ⟨29, [.int .i64 p, .int .i64 k, v639], 3⟩ := hb661
            refine Dr.fin rfl ?_
            refine nrm_and ?_
            refine AW.seq ?_
            refine AW.draw' [0, 0, 2, 0, 8, 30, 63, 127, 255, 255, 511, 2047] mixed (by rfl) ?_
            refine Dr.read 0 _ 45 _ rfl rfl rfl rfl rfl (RV.of (by intro _ _ h; cases h) (.inl rfl) (fun _ xd => HV.lda (cs := [.int .i64 p, .int .i64 k, v639]) rfl va29 (fun j u hu => rdc_ext xd ((at_cells hb673 rfl) j u hu)))) ?_
            refine Dr.read 1 _ 46 _ rfl rfl rfl rfl rfl (RV.of (by intro _ _ h; cases h) (.inl rfl) (fun _ xd => HV.mv rfl)) ?_
            refine Dr.read 3 _ 48 _ rfl rfl rfl rfl rfl (RV.of (by intro _ _ h; cases h) (.inl rfl) (fun _ xd => HV.mv rfl)) ?_
            have X674 := Ext.refl H659
            have y675 := hb672.lt
            have y676 := hb673.lt
            have o677 := X667.bd
            have o678 := X668.bd
            have o679 := X669.bd
            have o680 := X674.bd
            have a681 := ho670.ltb
            have ho682 := ho670.okk (ok' := fun b => (H541.bd ≤ b ∧ b ≠ b540) ∧ b < H659.bd) (fun b hb hlt => ⟨hb, hlt⟩)
            have a683 := ho671.ltb
            have X688 := Ext.refl H659
            have y689 := hb672.lt
            have y690 := hb673.lt
            have o691 := X667.bd
            have o692 := X668.bd
            have o693 := X669.bd
            have o694 := X688.bd
            have a695 := ho670.ltb
            have ho696 := ho670.okk (ok' := fun b => (H541.bd ≤ b ∧ b ≠ b540) ∧ b < H659.bd) (fun b hb hlt => ⟨hb, hlt⟩)
            have a697 := ho671.ltb
            refine Dr.eff2 2 4 _ _ _ _  rfl rfl  (by intro d h; cases h; exact ⟨rfl, rfl⟩) (by intro d h; cases h; exact ⟨rfl, rfl⟩) rfl rfl  rfl rfl rfl  (EC.of (by intro _ _ h; cases h) (.inl rfl) (WV.call fn87 rfl (cloneI_ok (hrh.ext X667) (by omega)))) (EC.of (by intro _ _ h; cases h) (.inl rfl) (WV.bsK (K := kI) (l := ([s] : List Int)) (css := [[.int .i64 s]]) sl22 rfl rfl (by first | rfl | (simp [Instr.fill, Value.cells, kI, kB, kU, kU8, kS, Kd.sc]; done) | (simp [Instr.fill, Value.cells, kI, kB, kU, kU8, kS, Kd.sc, rng1, rng2, rng3, rng4, kP])) rfl (segs_cons rfl segs_nil))) (fun v H' h => .inl (h.1)) (fun v H' h => .inl (h.1)) ?_ ?_ 
            · -- 2 first
              have X702 := Ext.refl H659
              have y703 := hb672.lt
              have y704 := hb673.lt
              have o705 := X667.bd
              have o706 := X668.bd
              have o707 := X669.bd
              have o708 := X702.bd
              have a709 := ho670.ltb
              have ho710 := ho670.okk (ok' := fun b => (H541.bd ≤ b ∧ b ≠ b540) ∧ b < H659.bd) (fun b hb hlt => ⟨hb, hlt⟩)
              have a711 := ho671.ltb
              rintro v712 H713 ⟨hx714, ho715⟩
              have q716 := Nat.le_trans q662 hx714.bd
              have q717 := Nat.le_trans q663 hx714.bd
              have q718 := Nat.le_trans q664 hx714.bd
              have q719 := Nat.le_trans q665 hx714.bd
              have q720 := Nat.le_trans q666 hx714.bd
              have X721 := Ext.trans X667 hx714
              have X722 := Ext.trans X668 hx714
              have X723 := Ext.trans X669 hx714
              have X724 := Ext.trans X702 hx714
              have ho725 := ho710.ext hx714
              have ho726 := ho671.ext hx714
              have hb727 := hb672.ext hx714
              have hb728 := hb673.ext hx714
              have X730 := Ext.refl H713
              have y731 := hb727.lt
              have y732 := hb728.lt
              have o733 := X721.bd
              have o734 := X722.bd
              have o735 := X723.bd
              have o736 := X724.bd
              have o737 := X730.bd
              have a738 := ho725.ltb
              have a739 := ho726.ltb
              have a740 := ho715.ltb
              refine Dr.eff 4 _ _ rfl (by intro d h; cases h; exact ⟨rfl, rfl⟩) rfl rfl rfl (EC.of (by intro _ _ h; cases h) (.inl rfl) (WV.bsK (K := kI) (l := ([s] : List Int)) (css := [[.int .i64 s]]) sl22 rfl rfl (by first | rfl | (simp [Instr.fill, Value.cells, kI, kB, kU, kU8, kS, Kd.sc]; done) | (simp [Instr.fill, Value.cells, kI, kB, kU, kU8, kS, Kd.sc, rng1, rng2, rng3, rng4, kP])) rfl (segs_cons rfl segs_nil))) (fun v H' h => .inl (h.1)) ?_
              rintro v741 H742 ⟨hx743, ho744⟩
              have q745 := Nat.le_trans q716 hx743.bd
              have q746 := Nat.le_trans q717 hx743.bd
              have q747 := Nat.le_trans q718 hx743.bd
              have q748 := Nat.le_trans q719 hx743.bd
              have q749 := Nat.le_trans q720 hx743.bd
              have X750 := Ext.trans X721 hx743
              have X751 := Ext.trans X722 hx743
              have X752 := Ext.trans X723 hx743
              have X753 := Ext.trans X724 hx743
              have X754 := Ext.trans X730 hx743
              have ho755 := ho725.ext hx743
              have ho756 := ho726.ext hx743
              have ho757 := ho715.ext hx743
              have hb758 := hb727.ext hx743
              have hb759 := hb728.ext hx743
              have X761 := Ext.refl H742
              refine Dr.eff 5 _ _ rfl (by intro d h; cases h; exact ⟨rfl, rfl⟩) rfl rfl rfl (EC.of (by intro _ _ h; cases h) (.inl rfl) (WV.apk sl22 rfl rfl ho757 ho744.rd (by simp; omega) (by simp; omega) (fun b hb _ e => Nat.lt_irrefl _ (Nat.lt_of_lt_of_le (a740 b e) hb)))) ?_ ?_
              · -- kept
                rintro v762 H763 ⟨hx764, ho765, hb766⟩
                have ho767 := ho765.narrow (ok' := fun b => H659.bd ≤ b) kI_flat (fun b q => (hb766 b q).elim (fun e => (ho757.blk b e).1) (fun e => Nat.le_trans X753.bd e))
                have q768 := Nat.le_trans q745 hx764.bd
                have q769 := Nat.le_trans q746 hx764.bd
                have q770 := Nat.le_trans q747 hx764.bd
                have q771 := Nat.le_trans q748 hx764.bd
                have q772 := Nat.le_trans q749 hx764.bd
                have X773 := Ext.thru X750 hx764 (fun b hb => Nat.le_trans o705 (ho757.blk b hb).1)
                have X774 := Ext.thru X751 hx764 (fun b hb => Nat.le_trans o706 (ho757.blk b hb).1)
                have X775 := Ext.thru X752 hx764 (fun b hb => Nat.le_trans o707 (ho757.blk b hb).1)
                have X776 := Ext.thru X753 hx764 (fun b hb => Nat.le_trans o708 (ho757.blk b hb).1)
                have q778 := Nat.le_trans X754.bd hx764.bd
                have q780 := Nat.le_trans X761.bd hx764.bd
                have ho781 := ho755.but hx764 (fun b hb _ e => by have h1 : (H541.bd ≤ b ∧ b ≠ b540) ∧ b < H659.bd := hb; have h2 : H659.bd ≤ b := (ho757.blk b e).1; omega) (fun b hb => (ho757.blk b hb).2.2)
                have hb784 := hb758.but hx764 (fun e => by have q : H659.bd ≤ _ := (ho757.blk _ e).1; omega)
                have hb785 := hb759.but hx764 (fun e => by have q : H659.bd ≤ _ := (ho757.blk _ e).1; omega)
                refine .inr (.inr ?_)
                exact (kept_cons (.inl rfl) (kept_cons (.inl rfl) (kept_cons (.inr ⟨_, _, _, rfl, rfl, rfl, (RV.of (by intro _ _ h; cases h) (.inl rfl) (fun _ xd => HV.lda (cs := [.int .i64 p, .int .i64 k, v639]) rfl va29 (fun j u hu => rdc_ext xd ((at_cells hb785 rfl) j u hu))))⟩) kept_nil)))
              rintro v762 H763 ⟨hx764, ho765, hb766⟩
              have ho767 := ho765.narrow (ok' := fun b => H659.bd ≤ b) kI_flat (fun b q => (hb766 b q).elim (fun e => (ho757.blk b e).1) (fun e => Nat.le_trans X753.bd e))
              have q786 := Nat.le_trans q745 hx764.bd
              have q787 := Nat.le_trans q746 hx764.bd
              have q788 := Nat.le_trans q747 hx764.bd
              have q789 := Nat.le_trans q748 hx764.bd
              have q790 := Nat.le_trans q749 hx764.bd
              have X791 := Ext.thru X750 hx764 (fun b hb => Nat.le_trans o705 (ho757.blk b hb).1)
              have X792 := Ext.thru X751 hx764 (fun b hb => Nat.le_trans o706 (ho757.blk b hb).1)
              have X793 := Ext.thru X752 hx764 (fun b hb => Nat.le_trans o707 (ho757.blk b hb).1)
              have X794 := Ext.thru X753 hx764 (fun b hb => Nat.le_trans o708 (ho757.blk b hb).1)
              have q796 := Nat.le_trans X754.bd hx764.bd
              have q798 := Nat.le_trans X761.bd hx764.bd
              have ho799 := ho755.but hx764 (fun b hb _ e => by have h1 : (H541.bd ≤ b ∧ b ≠ b540) ∧ b < H659.bd := hb; have h2 : H659.bd ≤ b := (ho757.blk b e).1; omega) (fun b hb => (ho757.blk b hb).2.2)
              have hb802 := hb758.but hx764 (fun e => by have q : H659.bd ≤ _ := (ho757.blk _ e).1; omega)
              have hb803 := hb759.but hx764 (fun e => by have q : H659.bd ≤ _ := (ho757.blk _ e).1; omega)
              have X804 := Ext.refl H763
              have y805 := hb802.lt
              have y806 := hb803.lt
              have o807 := X791.bd
              have o808 := X792.bd
              have o809 := X793.bd
              have o810 := X794.bd
              have o811 := X804.bd
              have a812 := ho799.ltb
              have a813 := ho767.ltb
              refine Dr.eff 6 _ _ rfl (by intro d h; cases h; exact ⟨rfl, rfl⟩) rfl rfl rfl (EC.of (by intro _ _ h; cases h) (.inl rfl) (WV.call fn75 rfl (implSol_ok p k (rd_ofO ho799.rd) ho767.rd hF.q hk0 cr1 (by omega) (by rw [cr2]; omega) cr3 cr4))) (fun v H' h => .inl (h.2)) ?_
              rintro _ H815 ⟨⟨v814, rfl, hv817⟩, hx816⟩
              have q818 := Nat.le_trans q786 hx816.bd
              have q819 := Nat.le_trans q787 hx816.bd
              have q820 := Nat.le_trans q788 hx816.bd
              have q821 := Nat.le_trans q789 hx816.bd
              have q822 := Nat.le_trans q790 hx816.bd
              have q823 := Nat.le_trans q796 hx816.bd
              have q824 := Nat.le_trans q798 hx816.bd
              have X825 := Ext.trans X791 hx816
              have X826 := Ext.trans X792 hx816
              have X827 := Ext.trans X793 hx816
              have X828 := Ext.trans X794 hx816
              have X829 := Ext.trans X804 hx816
              have ho830 := ho799.ext hx816
              have ho831 := ho767.ext hx816
              have hb832 := hb802.ext hx816
              have hb833 := hb803.ext hx816
              have X834 := Ext.refl H815
              refine Dr.read 7 _ 44 _ rfl rfl rfl rfl rfl (RV.of (by intro _ _ h; cases h) (.inl rfl) (fun _ xd => HV.mv rfl)) ?_
              refine Dr.read 8 _ 52 _ rfl rfl rfl rfl rfl (RV.of (by intro _ _ h; cases h) (.inl rfl) (fun _ xd => HV.ex rfl rfl)) ?_
              refine Dr.read 9 _ 53 _ rfl rfl rfl rfl rfl (RV.of (by intro _ _ h; cases h) (.inl rfl) (fun _ xd => HV.ex rfl rfl)) ?_
              refine Dr.read 10 _ 12 _ rfl rfl rfl rfl rfl (RV.of (by intro _ _ h; cases h) (.inl rfl) (fun _ xd => HV.as rfl)) ?_
              refine Dr.read 11 _ 13 _ rfl rfl rfl rfl rfl (RV.of (by intro _ _ h; cases h) (.inl rfl) (fun _ xd => HV.as rfl)) ?_
              refine Dr.fin rfl ?_
              refine nrm_and ?_
              refine AW.seq ?_
              refine AW.rs ?_
              refine AL.val rfl (.inl rfl) (HV.mv rfl) ?_
              refine AL.val rfl (.inl rfl) (HV.not rfl) ?_
              refine AL.nx ?_
              refine AW.cond rfl (fun c836 => ?_) (fun c836 => ?_)
              · -- then
                refine AW.rs ?_
                refine AL.val rfl (.inl rfl) (HV.as rfl) ?_
                refine AL.val rfl (.inl rfl) (HV.as rfl) ?_
                refine AL.nx ?_
                refine AW.ret ?_
                refine ret_and ?_
                refine post_two rfl rfl rfl ?_ (.inr rfl)
                have hcp := cp_6 hwz hsb (show (cpM o p k l g h s).2 = false from bnot_t c836); exact ⟨⟨_, by rw [hcp.1], by rw [hcp.2]; exact .inl (OwnK.nil _)⟩, X825⟩
              · -- else
                refine AW.skip ?_
                refine nrm_and ?_
                refine AW.rs ?_
                have hb0 : (cpM o p k l g h s).2 = true := bnot_f c836
                have hsl := cr5 hb0
                unfold cpM cpR at hsl
                refine AL.val rfl (.inl rfl) (HV.mv rfl) ?_
                obtain ⟨v837, ho838, hP839⟩ := OwnT.cut hv817 (by omega) sl22
                refine AL.val rfl (.inl rfl) (hP839 rfl rfl) ?_
                refine AL.val rfl (.inl rfl) (HV.as rfl) ?_
                refine AL.val rfl (.inl rfl) (HV.as rfl) ?_
                refine AL.nx ?_
                refine AW.ret ?_
                refine post_two rfl rfl rfl ?_ (.inr rfl)
                have hcp := cp_0 hwz hsb hb0; exact ⟨⟨_, by rw [hcp.1], by rw [hcp.2]; exact ho838.okk (fun b hb _ => Nat.le_trans o807 hb)⟩, X825⟩
            · -- 4 first
              have X840 := Ext.refl H659
              have y841 := hb672.lt
              have y842 := hb673.lt
              have o843 := X667.bd
              have o844 := X668.bd
              have o845 := X669.bd
              have o846 := X840.bd
              have a847 := ho670.ltb
              have ho848 := ho670.okk (ok' := fun b => (H541.bd ≤ b ∧ b ≠ b540) ∧ b < H659.bd) (fun b hb hlt => ⟨hb, hlt⟩)
              have a849 := ho671.ltb
              rintro v850 H851 ⟨hx852, ho853⟩
              have q854 := Nat.le_trans q662 hx852.bd
              have q855 := Nat.le_trans q663 hx852.bd
              have q856 := Nat.le_trans q664 hx852.bd
              have q857 := Nat.le_trans q665 hx852.bd
              have q858 := Nat.le_trans q666 hx852.bd
              have X859 := Ext.trans X667 hx852
              have X860 := Ext.trans X668 hx852
              have X861 := Ext.trans X669 hx852
              have X862 := Ext.trans X840 hx852
              have ho863 := ho848.ext hx852
              have ho864 := ho671.ext hx852
              have hb865 := hb672.ext hx852
              have hb866 := hb673.ext hx852
              have X868 := Ext.refl H851
              have y869 := hb865.lt
              have y870 := hb866.lt
              have o871 := X859.bd
              have o872 := X860.bd
              have o873 := X861.bd
              have o874 := X862.bd
              have o875 := X868.bd
              have a876 := ho863.ltb
              have a877 := ho864.ltb
              have a878 := ho853.ltb
              refine Dr.eff 2 _ _ rfl (by intro d h; cases h; exact ⟨rfl, rfl⟩) rfl rfl rfl (EC.of (by intro _ _ h; cases h) (.inl rfl) (WV.call fn87 rfl (cloneI_ok (hrh.ext X859) (by omega)))) (fun v H' h => .inl (h.1)) ?_
              rintro v879 H880 ⟨hx881, ho882⟩
              have q883 := Nat.le_trans q854 hx881.bd
              have q884 := Nat.le_trans q855 hx881.bd
              have q885 := Nat.le_trans q856 hx881.bd
              have q886 := Nat.le_trans q857 hx881.bd
              have q887 := Nat.le_trans q858 hx881.bd
              have X888 := Ext.trans X859 hx881
              have X889 := Ext.trans X860 hx881
              have X890 := Ext.trans X861 hx881
              have X891 := Ext.trans X862 hx881
              have X892 := Ext.trans X868 hx881
              have ho893 := ho863.ext hx881
              have ho894 := ho864.ext hx881
              have ho895 := ho853.ext hx881
              have hb896 := hb865.ext hx881
              have hb897 := hb866.ext hx881
              have X899 := Ext.refl H880
              refine Dr.eff 5 _ _ rfl (by intro d h; cases h; exact ⟨rfl, rfl⟩) rfl rfl rfl (EC.of (by intro _ _ h; cases h) (.inl rfl) (WV.apk sl22 rfl rfl ho882 (OwnK.narrow (ok' := fun b => some b = v850.ownBlock) kI_flat ho895 (fun b q => q)).rd (by simp; omega) (by simp; omega) (fun b hb _ e => by have h1 := a878 b hb; have h2 : H851.bd ≤ b := (ho882.blk b e).1; omega))) ?_ ?_
              · -- kept
                rintro v900 H901 ⟨hx902, ho903, hb904⟩
                have ho905 := ho903.narrow (ok' := fun b => H851.bd ≤ b) kI_flat (fun b q => (hb904 b q).elim (fun e => (ho882.blk b e).1) (fun e => Nat.le_trans X892.bd e))
                have q906 := Nat.le_trans q883 hx902.bd
                have q907 := Nat.le_trans q884 hx902.bd
                have q908 := Nat.le_trans q885 hx902.bd
                have q909 := Nat.le_trans q886 hx902.bd
                have q910 := Nat.le_trans q887 hx902.bd
                have X911 := Ext.thru X888 hx902 (fun b hb => Nat.le_trans o871 (ho882.blk b hb).1)
                have X912 := Ext.thru X889 hx902 (fun b hb => Nat.le_trans o872 (ho882.blk b hb).1)
                have X913 := Ext.thru X890 hx902 (fun b hb => Nat.le_trans o873 (ho882.blk b hb).1)
                have X914 := Ext.thru X891 hx902 (fun b hb => Nat.le_trans o874 (ho882.blk b hb).1)
                have X915 := Ext.thru X892 hx902 (fun b hb => Nat.le_trans o875 (ho882.blk b hb).1)
                have q917 := Nat.le_trans X899.bd hx902.bd
                have ho918 := ho893.but hx902 (fun b hb _ e => by have h1 : (H541.bd ≤ b ∧ b ≠ b540) ∧ b < H659.bd := hb; have h2 : H851.bd ≤ b := (ho882.blk b e).1; omega) (fun b hb => (ho882.blk b hb).2.2)
                have hb921 := hb896.but hx902 (fun e => by have q : H851.bd ≤ _ := (ho882.blk _ e).1; omega)
                have hb922 := hb897.but hx902 (fun e => by have q : H851.bd ≤ _ := (ho882.blk _ e).1; omega)
                refine .inr (.inr ?_)
                exact (kept_cons (.inl rfl) (kept_cons (.inl rfl) (kept_cons (.inr ⟨_, _, _, rfl, rfl, rfl, (RV.of (by intro _ _ h; cases h) (.inl rfl) (fun _ xd => HV.lda (cs := [.int .i64 p, .int .i64 k, v639]) rfl va29 (fun j u hu => rdc_ext xd ((at_cells hb922 rfl) j u hu))))⟩) kept_nil)))
              rintro v900 H901 ⟨hx902, ho903, hb904⟩
              have ho905 := ho903.narrow (ok' := fun b => H851.bd ≤ b) kI_flat (fun b q => (hb904 b q).elim (fun e => (ho882.blk b e).1) (fun e => Nat.le_trans X892.bd e))
              have q923 := Nat.le_trans q883 hx902.bd
              have q924 := Nat.le_trans q884 hx902.bd
              have q925 := Nat.le_trans q885 hx902.bd
              have q926 := Nat.le_trans q886 hx902.bd
              have q927 := Nat.le_trans q887 hx902.bd
              have X928 := Ext.thru X888 hx902 (fun b hb => Nat.le_trans o871 (ho882.blk b hb).1)
              have X929 := Ext.thru X889 hx902 (fun b hb => Nat.le_trans o872 (ho882.blk b hb).1)
              have X930 := Ext.thru X890 hx902 (fun b hb => Nat.le_trans o873 (ho882.blk b hb).1)
              have X931 := Ext.thru X891 hx902 (fun b hb => Nat.le_trans o874 (ho882.blk b hb).1)
              have X932 := Ext.thru X892 hx902 (fun b hb => Nat.le_trans o875 (ho882.blk b hb).1)
              have q934 := Nat.le_trans X899.bd hx902.bd
              have ho935 := ho893.but hx902 (fun b hb _ e => by have h1 : (H541.bd ≤ b ∧ b ≠ b540) ∧ b < H659.bd := hb; have h2 : H851.bd ≤ b := (ho882.blk b e).1; omega) (fun b hb => (ho882.blk b hb).2.2)
              have hb938 := hb896.but hx902 (fun e => by have q : H851.bd ≤ _ := (ho882.blk _ e).1; omega)
              have hb939 := hb897.but hx902 (fun e => by have q : H851.bd ≤ _ := (ho882.blk _ e).1; omega)
              have X940 := Ext.refl H901
              have y941 := hb938.lt
              have y942 := hb939.lt
              have o943 := X928.bd
              have o944 := X929.bd
              have o945 := X930.bd
              have o946 := X931.bd
              have o947 := X932.bd
              have o948 := X940.bd
              have a949 := ho935.ltb
              have a950 := ho905.ltb
              refine Dr.eff 6 _ _ rfl (by intro d h; cases h; exact ⟨rfl, rfl⟩) rfl rfl rfl (EC.of (by intro _ _ h; cases h) (.inl rfl) (WV.call fn75 rfl (implSol_ok p k (rd_ofO ho935.rd) ho905.rd hF.q hk0 cr1 (by omega) (by rw [cr2]; omega) cr3 cr4))) (fun v H' h => .inl (h.2)) ?_
              rintro _ H952 ⟨⟨v951, rfl, hv954⟩, hx953⟩
              have q955 := Nat.le_trans q923 hx953.bd
              have q956 := Nat.le_trans q924 hx953.bd
              have q957 := Nat.le_trans q925 hx953.bd
              have q958 := Nat.le_trans q926 hx953.bd
              have q959 := Nat.le_trans q927 hx953.bd
              have q960 := Nat.le_trans q934 hx953.bd
              have X961 := Ext.trans X928 hx953
              have X962 := Ext.trans X929 hx953
              have X963 := Ext.trans X930 hx953
              have X964 := Ext.trans X931 hx953
              have X965 := Ext.trans X932 hx953
              have X966 := Ext.trans X940 hx953
              have ho967 := ho935.ext hx953
              have ho968 := ho905.ext hx953
              have hb969 := hb938.ext hx953
              have hb970 := hb939.ext hx953
              have X971 := Ext.refl H952
              refine Dr.read 7 _ 44 _ rfl rfl rfl rfl rfl (RV.of (by intro _ _ h; cases h) (.inl rfl) (fun _ xd => HV.mv rfl)) ?_
              refine Dr.read 8 _ 52 _ rfl rfl rfl rfl rfl (RV.of (by intro _ _ h; cases h) (.inl rfl) (fun _ xd => HV.ex rfl rfl)) ?_
              refine Dr.read 9 _ 53 _ rfl rfl rfl rfl rfl (RV.of (by intro _ _ h; cases h) (.inl rfl) (fun _ xd => HV.ex rfl rfl)) ?_
              refine Dr.read 10 _ 12 _ rfl rfl rfl rfl rfl (RV.of (by intro _ _ h; cases h) (.inl rfl) (fun _ xd => HV.as rfl)) ?_
              refine Dr.read 11 _ 13 _ rfl rfl rfl rfl rfl (RV.of (by intro _ _ h; cases h) (.inl rfl) (fun _ xd => HV.as rfl)) ?_
              refine Dr.fin rfl ?_
              refine nrm_and ?_
              refine AW.seq ?_
              refine AW.rs ?_
              refine AL.val rfl (.inl rfl) (HV.mv rfl) ?_
              refine AL.val rfl (.inl rfl) (HV.not rfl) ?_
              refine AL.nx ?_
              refine AW.cond rfl (fun c973 => ?_) (fun c973 => ?_)
              · -- then
                refine AW.rs ?_
                refine AL.val rfl (.inl rfl) (HV.as rfl) ?_
                refine AL.val rfl (.inl rfl) (HV.as rfl) ?_
                refine AL.nx ?_
                refine AW.ret ?_
                refine ret_and ?_
                refine post_two rfl rfl rfl ?_ (.inr rfl)
                have hcp := cp_6 hwz hsb (show (cpM o p k l g h s).2 = false from bnot_t c973); exact ⟨⟨_, by rw [hcp.1], by rw [hcp.2]; exact .inl (OwnK.nil _)⟩, X961⟩
              · -- else
                refine AW.skip ?_
                refine nrm_and ?_
                refine AW.rs ?_
                have hb0 : (cpM o p k l g h s).2 = true := bnot_f c973
                have hsl := cr5 hb0
                unfold cpM cpR at hsl
                refine AL.val rfl (.inl rfl) (HV.mv rfl) ?_
                obtain ⟨v974, ho975, hP976⟩ := OwnT.cut hv954 (by omega) sl22
                refine AL.val rfl (.inl rfl) (hP976 rfl rfl) ?_
                refine AL.val rfl (.inl rfl) (HV.as rfl) ?_
                refine AL.val rfl (.inl rfl) (HV.as rfl) ?_
                refine AL.nx ?_
                refine AW.ret ?_
                refine post_two rfl rfl rfl ?_ (.inr rfl)
                have hcp := cp_0 hwz hsb hb0; exact ⟨⟨_, by rw [hcp.1], by rw [hcp.2]; exact ho975.okk (fun b hb _ => Nat.le_trans o943 hb)⟩, X961⟩
        · -- 4 first
          rintro _ H978 ⟨b977, rfl, hx979, hn980, hb981⟩
          have o982 := Nat.le_trans X35.bd hn980
          have o983 := Nat.le_trans X36.bd hn980
          have o984 := Nat.le_trans X37.bd hn980
          have ne985 : b5 ≠ b977 := by have := hb39.lt; omega
          have X986 := Ext.trans X35 hx979
          have X987 := Ext.trans X36 hx979
          have X988 := Ext.trans X37 hx979
          have hb989 := hb39.ext hx979
          have X990 := Ext.refl H978
          refine Dr.eff 2 _ _ rfl (by intro d h; cases h; exact ⟨rfl, rfl⟩) rfl rfl rfl (EC.of (by intro _ _ h; cases h) (.inl rfl) (WV.call fn74 rfl (crowdOf_ok (hrg.ext X986) (by skip; exact ris_low hF.hn hg)))) (fun v H' h => .inl (h.2)) ?_
          rintro _ H991 ⟨rfl, hx992⟩
          have X993 := Ext.trans X986 hx992
          have X994 := Ext.trans X987 hx992
          have X995 := Ext.trans X988 hx992
          have X996 := Ext.trans X990 hx992
          have hb997 := hb989.ext hx992
          have hb998 := hb981.ext hx992
          have X999 := Ext.refl H991
          have y1000 := hb997.lt
          have y1001 := hb998.lt
          have o1002 := X993.bd
          have o1003 := X994.bd
          have o1004 := X995.bd
          have o1005 := X996.bd
          have o1006 := X999.bd
          refine Dr.eff 3 _ _ rfl (by intro d h; cases h; exact ⟨rfl, rfl⟩) rfl rfl rfl (EC.of (by intro _ _ h; cases h) (.inl rfl) (WV.call fn73 rfl (held_ok n p k (ho.ext X993) (hr.ext X993) hok hg))) (fun v H' h => .inl (h.2)) ?_
          rintro _ H1008 ⟨⟨u1007, rfl, ho1010⟩, hx1009⟩
          have X1011 := Ext.trans X993 hx1009
          have X1012 := Ext.trans X994 hx1009
          have X1013 := Ext.trans X995 hx1009
          have X1014 := Ext.trans X996 hx1009
          have X1015 := Ext.trans X999 hx1009
          have hb1016 := hb997.ext hx1009
          have hb1017 := hb998.ext hx1009
          have X1018 := Ext.refl H1008
          refine Dr.eff 5 _ _ rfl (by intro d h; cases h) rfl rfl rfl (EC.of (by intro _ _ h; cases h) (.inl rfl) (WV.st rfl rfl va29 rfl hb1017 (Nat.le_of_ble_eq_true rfl) (one_cons rfl (one_cons rfl (one_cons (sl_one1 (rd_ofO ho1010.rd).isSl) one_nil))))) (fun v H' h => .inr (.inl rfl)) ?_
          rintro _ H1020 ⟨hx1021, hb1022⟩
          have X1023 := Ext.thru X1011 hx1021 (fun z_ hz_ => by rw [hz_]; exact o982)
          have X1024 := Ext.thru X1012 hx1021 (fun z_ hz_ => by rw [hz_]; exact o983)
          have X1025 := Ext.thru X1013 hx1021 (fun z_ hz_ => by rw [hz_]; exact o984)
          have q1027 := Nat.le_trans X1014.bd hx1021.bd
          have q1029 := Nat.le_trans X1015.bd hx1021.bd
          have q1031 := Nat.le_trans X1018.bd hx1021.bd
          have ho1032 := ho1010.but hx1021 (fun b hb _ e => by have hb' : H991.bd ≤ b := hb; have e' : b = b977 := e; omega) (fun z_ hz_ => by rw [hz_]; exact hb1017.w)
          have hb1033 := hb1016.but hx1021 ne985
          have hb1034 : At W H1020 b977 ⟨29, [.int .i64 p, .int .i64 k, u1007], 3⟩ := hb1022
          refine Dr.fin rfl ?_
          refine nrm_and ?_
          refine AW.seq ?_
          refine AW.draw' [0, 1, 0, 4, 12, 28, 63, 127, 255] mixed (by rfl) ?_
          have X1035 := Ext.refl H1020
          have y1037 := hb1034.lt
          have y1038 : H991.bd ≤ H1020.bd := q1029
          have ho1036 := ho1032.okk (ok' := fun b => (H991.bd ≤ b ∧ b ≠ b977) ∧ b < H1020.bd) (fun b hb hlt => by have h1 : H991.bd ≤ b := hb; exact ⟨⟨by omega, by omega⟩, hlt⟩)
          refine Dr.read 0 _ 36 _ rfl rfl rfl rfl rfl (RV.of (by intro _ _ h; cases h) (.inl rfl) (fun _ xd => HV.fa fl29_2 rfl)) ?_
          refine Dr.read 1 _ 37 _ rfl rfl rfl rfl rfl (RV.of (by intro _ _ h; cases h) (.inl rfl) (fun _ xd => HV.ld rfl va23 (rdc_ext xd (at_cell_add (j := 2) hb1034 rfl)))) ?_
          refine Dr.read 2 _ 38 _ rfl rfl rfl rfl rfl (RV.of (by intro _ _ h; cases h) (.inl rfl) (fun _ xd => HV.fa fl29_1 rfl)) ?_
          refine Dr.read 3 _ 39 _ rfl rfl rfl rfl rfl (RV.of (by intro _ _ h; cases h) (.inl rfl) (fun _ xd => HV.ld rfl va2 (rdc_ext xd (at_cell_add (j := 1) hb1034 rfl)))) ?_
          have y1039 := hb1033.lt
          have y1040 := hb1034.lt
          have o1041 := X1023.bd
          have o1042 := X1024.bd
          have o1043 := X1025.bd
          have o1044 := X1035.bd
          have a1045 := ho1036.ltb
          refine Dr.eff 4 _ _ rfl (by intro d h; cases h; exact ⟨rfl, rfl⟩) rfl rfl rfl (EC.of (by intro _ _ h; cases h) (.inl rfl) (WV.call fn83 rfl (unit_ok (W := W) k (by omega)))) (fun v H' h => .inl (h.1)) ?_
          rintro v1046 H1047 ⟨hx1048, ho1049⟩
          have q1050 := Nat.le_trans q1027 hx1048.bd
          have q1051 := Nat.le_trans q1029 hx1048.bd
          have q1052 := Nat.le_trans q1031 hx1048.bd
          have X1053 := Ext.trans X1023 hx1048
          have X1054 := Ext.trans X1024 hx1048
          have X1055 := Ext.trans X1025 hx1048
          have X1056 := Ext.trans X1035 hx1048
          have ho1057 := ho1036.ext hx1048
          have hb1058 := hb1033.ext hx1048
          have hb1059 := hb1034.ext hx1048
          have X1060 := Ext.refl H1047
          have y1062 := hb1058.lt
          have y1063 := hb1059.lt
          have o1064 := X1053.bd
          have o1065 := X1054.bd
          have o1066 := X1055.bd
          have o1067 := X1056.bd
          have o1068 := X1060.bd
          have a1069 := ho1057.ltb
          have a1070 := ho1049.ltb
          have hc1075 : v1046.cells = #[v1046] := by obtain ⟨A, c, e⟩ := ho1049.isSl; rw [e]; rfl
          refine Dr.eff 5 _ _ rfl (by intro d h; cases h; exact ⟨rfl, rfl⟩) rfl rfl rfl (EC.of (by intro _ _ h; cases h) (.inl rfl) (WV.bsO (okx := fun b => H1020.bd ≤ b) (K := (kO 2 kI)) (l := ([(unitL (k : Int).toNat 0)] : List (List Int))) (css := [[v1046]]) sl23 rfl rfl (by simp [Instr.fill, hc1075, kO, rng1]) rfl (segs_cons ⟨_, rfl, ho1049⟩ segs_nil))) (fun v H' h => .inl (h.1)) ?_
          rintro v1071 H1072 ⟨hx1073, ho1074⟩
          have q1077 := Nat.le_trans q1050 hx1073.bd
          have q1078 := Nat.le_trans q1051 hx1073.bd
          have q1079 := Nat.le_trans q1052 hx1073.bd
          have X1080 := Ext.trans X1053 hx1073
          have X1081 := Ext.trans X1054 hx1073
          have X1082 := Ext.trans X1055 hx1073
          have X1083 := Ext.trans X1056 hx1073
          have X1084 := Ext.trans X1060 hx1073
          have ho1085 := ho1057.ext hx1073
          have ho1086 := ho1049.ext hx1073
          have hb1087 := hb1058.ext hx1073
          have hb1088 := hb1059.ext hx1073
          have ho1076 := ho1074.okk (ok' := fun b => H1020.bd ≤ b) (fun b hb _ => hb.elim id (fun e => Nat.le_trans X1056.bd e))
          have X1090 := Ext.refl H1072
          refine Dr.eff 6 _ _ rfl (by intro d h; cases h; exact ⟨rfl, rfl⟩) rfl rfl rfl (EC.of (by intro _ _ h; cases h) (.inl rfl) (WV.apD (ok := fun b => (H991.bd ≤ b ∧ b ≠ b977)) (B := H1020.bd) sl23 rfl rfl ho1085 ho1076.rd X1083.bd (by rw [hpl]; omega) (by rw [hpl]; omega))) (fun v H' h => .inr (.inl rfl)) ?_
          rintro v1091 H1092 ⟨hx1093, ho1094, hb1095⟩
          have ho1096 := ho1094.okk (ok' := fun b => (H991.bd ≤ b ∧ b ≠ b977)) (fun b hb _ => hb.elim id (fun e => by have h1 : H1020.bd ≤ b := e; exact ⟨by omega, by omega⟩))
          have q1097 := Nat.le_trans q1077 hx1093.bd
          have q1098 := Nat.le_trans q1078 hx1093.bd
          have q1099 := Nat.le_trans q1079 hx1093.bd
          have X1100 := Ext.thru X1080 hx1093 (fun b hb => Nat.le_trans o1002 (ho1085.blk b hb).1.1.1)
          have X1101 := Ext.thru X1081 hx1093 (fun b hb => Nat.le_trans o1003 (ho1085.blk b hb).1.1.1)
          have X1102 := Ext.thru X1082 hx1093 (fun b hb => Nat.le_trans o1004 (ho1085.blk b hb).1.1.1)
          have q1104 := Nat.le_trans X1083.bd hx1093.bd
          have q1106 := Nat.le_trans X1084.bd hx1093.bd
          have q1108 := Nat.le_trans X1090.bd hx1093.bd
          have ho1109 := ho1076.but hx1093 (fun b hb _ e => by have h1 : H1020.bd ≤ b := hb; have h2 : (H991.bd ≤ b ∧ b ≠ b977) ∧ b < H1020.bd := (ho1085.blk b e).1; omega) (fun b hb => (ho1085.blk b hb).2.2)
          have hb1110 := hb1087.but hx1093 (fun e => by have q : H991.bd ≤ _ := (ho1085.blk _ e).1.1.1; omega)
          have hb1111 := hb1088.but hx1093 (fun e => by have q : H991.bd ≤ _ := (ho1085.blk _ e).1.1.1; omega)
          refine Dr.read 7 _ 43 _ rfl rfl rfl rfl rfl (RV.of (by intro _ _ h; cases h) (.inl rfl) (fun _ xd => HV.fa fl29_2 rfl)) ?_
          refine Dr.eff 8 _ _ rfl (by intro d h; cases h) rfl rfl rfl (EC.of (by intro _ _ h; cases h) (.inl rfl) (WV.st rfl rfl va23 (sl_size (rd_ofO ho1096.rd).isSl) hb1111 (Nat.le_of_ble_eq_true rfl) (sl_one (rd_ofO ho1096.rd).isSl))) (fun v H' h => .inr (.inl rfl)) ?_
          rintro _ H1112 ⟨hx1113, hb1114⟩
          rw [sl_cells (rd_ofO ho1096.rd).isSl] at hb1114
          have q1115 := Nat.le_trans q1097 hx1113.bd
          have q1116 := Nat.le_trans q1098 hx1113.bd
          have q1117 := Nat.le_trans q1099 hx1113.bd
          have q1118 := Nat.le_trans q1104 hx1113.bd
          have q1119 := Nat.le_trans q1106 hx1113.bd
          have q1120 := Nat.le_trans q1108 hx1113.bd
          have X1121 := Ext.thru X1100 hx1113 (fun z_ hz_ => by rw [hz_]; exact o982)
          have X1122 := Ext.thru X1101 hx1113 (fun z_ hz_ => by rw [hz_]; exact o983)
          have X1123 := Ext.thru X1102 hx1113 (fun z_ hz_ => by rw [hz_]; exact o984)
          have ho1124 := ho1096.but hx1113 (fun b hb _ e => by have hb' : (H991.bd ≤ b ∧ b ≠ b977) := hb; have e' : b = b977 := e; omega) (fun z_ hz_ => by rw [hz_]; exact hb1111.w)
          have ho1125 := ho1109.but hx1113 (fun b hb _ e => by have hb' : H1020.bd ≤ b := hb; have e' : b = b977 := e; omega) (fun z_ hz_ => by rw [hz_]; exact hb1111.w)
          have hb1126 := hb1110.but hx1113 ne985
          have hb1127 : At W H1112 b977 ⟨29, [.int .i64 p, .int .i64 k, v1091], 3⟩ := hb1114
          refine Dr.fin rfl ?_
          refine nrm_and ?_
          refine AW.seq ?_
          refine AW.draw' [0, 0, 2, 0, 8, 30, 63, 127, 255, 255, 511, 2047] mixed (by rfl) ?_
          refine Dr.read 0 _ 45 _ rfl rfl rfl rfl rfl (RV.of (by intro _ _ h; cases h) (.inl rfl) (fun _ xd => HV.lda (cs := [.int .i64 p, .int .i64 k, v1091]) rfl va29 (fun j u hu => rdc_ext xd ((at_cells hb1127 rfl) j u hu)))) ?_
          refine Dr.read 1 _ 46 _ rfl rfl rfl rfl rfl (RV.of (by intro _ _ h; cases h) (.inl rfl) (fun _ xd => HV.mv rfl)) ?_
          refine Dr.read 3 _ 48 _ rfl rfl rfl rfl rfl (RV.of (by intro _ _ h; cases h) (.inl rfl) (fun _ xd => HV.mv rfl)) ?_
          have X1128 := Ext.refl H1112
          have y1129 := hb1126.lt
          have y1130 := hb1127.lt
          have o1131 := X1121.bd
          have o1132 := X1122.bd
          have o1133 := X1123.bd
          have o1134 := X1128.bd
          have a1135 := ho1124.ltb
          have ho1136 := ho1124.okk (ok' := fun b => (H991.bd ≤ b ∧ b ≠ b977) ∧ b < H1112.bd) (fun b hb hlt => ⟨hb, hlt⟩)
          have a1137 := ho1125.ltb
          have X1142 := Ext.refl H1112
          have y1143 := hb1126.lt
          have y1144 := hb1127.lt
          have o1145 := X1121.bd
          have o1146 := X1122.bd
          have o1147 := X1123.bd
          have o1148 := X1142.bd
          have a1149 := ho1124.ltb
          have ho1150 := ho1124.okk (ok' := fun b => (H991.bd ≤ b ∧ b ≠ b977) ∧ b < H1112.bd) (fun b hb hlt => ⟨hb, hlt⟩)
          have a1151 := ho1125.ltb
          refine Dr.eff2 2 4 _ _ _ _  rfl rfl  (by intro d h; cases h; exact ⟨rfl, rfl⟩) (by intro d h; cases h; exact ⟨rfl, rfl⟩) rfl rfl  rfl rfl rfl  (EC.of (by intro _ _ h; cases h) (.inl rfl) (WV.call fn87 rfl (cloneI_ok (hrh.ext X1121) (by omega)))) (EC.of (by intro _ _ h; cases h) (.inl rfl) (WV.bsK (K := kI) (l := ([s] : List Int)) (css := [[.int .i64 s]]) sl22 rfl rfl (by first | rfl | (simp [Instr.fill, Value.cells, kI, kB, kU, kU8, kS, Kd.sc]; done) | (simp [Instr.fill, Value.cells, kI, kB, kU, kU8, kS, Kd.sc, rng1, rng2, rng3, rng4, kP])) rfl (segs_cons rfl segs_nil))) (fun v H' h => .inl (h.1)) (fun v H' h => .inl (h.1)) ?_ ?_ 
          · -- 2 first
            have X1156 := Ext.refl H1112
            have y1157 := hb1126.lt
            have y1158 := hb1127.lt
            have o1159 := X1121.bd
            have o1160 := X1122.bd
            have o1161 := X1123.bd
            have o1162 := X1156.bd
            have a1163 := ho1124.ltb
            have ho1164 := ho1124.okk (ok' := fun b => (H991.bd ≤ b ∧ b ≠ b977) ∧ b < H1112.bd) (fun b hb hlt => ⟨hb, hlt⟩)
            have a1165 := ho1125.ltb
            rintro v1166 H1167 ⟨hx1168, ho1169⟩
            have q1170 := Nat.le_trans q1115 hx1168.bd
            have q1171 := Nat.le_trans q1116 hx1168.bd
            have q1172 := Nat.le_trans q1117 hx1168.bd
            have q1173 := Nat.le_trans q1118 hx1168.bd
            have q1174 := Nat.le_trans q1119 hx1168.bd
            have q1175 := Nat.le_trans q1120 hx1168.bd
            have X1176 := Ext.trans X1121 hx1168
            have X1177 := Ext.trans X1122 hx1168
            have X1178 := Ext.trans X1123 hx1168
            have X1179 := Ext.trans X1156 hx1168
            have ho1180 := ho1164.ext hx1168
            have ho1181 := ho1125.ext hx1168
            have hb1182 := hb1126.ext hx1168
            have hb1183 := hb1127.ext hx1168
            have X1185 := Ext.refl H1167
            have y1186 := hb1182.lt
            have y1187 := hb1183.lt
            have o1188 := X1176.bd
            have o1189 := X1177.bd
            have o1190 := X1178.bd
            have o1191 := X1179.bd
            have o1192 := X1185.bd
            have a1193 := ho1180.ltb
            have a1194 := ho1181.ltb
            have a1195 := ho1169.ltb
            refine Dr.eff 4 _ _ rfl (by intro d h; cases h; exact ⟨rfl, rfl⟩) rfl rfl rfl (EC.of (by intro _ _ h; cases h) (.inl rfl) (WV.bsK (K := kI) (l := ([s] : List Int)) (css := [[.int .i64 s]]) sl22 rfl rfl (by first | rfl | (simp [Instr.fill, Value.cells, kI, kB, kU, kU8, kS, Kd.sc]; done) | (simp [Instr.fill, Value.cells, kI, kB, kU, kU8, kS, Kd.sc, rng1, rng2, rng3, rng4, kP])) rfl (segs_cons rfl segs_nil))) (fun v H' h => .inl (h.1)) ?_
            rintro v1196 H1197 ⟨hx1198, ho1199⟩
            have q1200 := Nat.le_trans q1170 hx1198.bd
            have q1201 := Nat.le_trans q1171 hx1198.bd
            have q1202 := Nat.le_trans q1172 hx1198.bd
            have q1203 := Nat.le_trans q1173 hx1198.bd
            have q1204 := Nat.le_trans q1174 hx1198.bd
            have q1205 := Nat.le_trans q1175 hx1198.bd
            have X1206 := Ext.trans X1176 hx1198
            have X1207 := Ext.trans X1177 hx1198
            have X1208 := Ext.trans X1178 hx1198
            have X1209 := Ext.trans X1179 hx1198
            have X1210 := Ext.trans X1185 hx1198
            have ho1211 := ho1180.ext hx1198
            have ho1212 := ho1181.ext hx1198
            have ho1213 := ho1169.ext hx1198
            have hb1214 := hb1182.ext hx1198
            have hb1215 := hb1183.ext hx1198
            have X1217 := Ext.refl H1197
            refine Dr.eff 5 _ _ rfl (by intro d h; cases h; exact ⟨rfl, rfl⟩) rfl rfl rfl (EC.of (by intro _ _ h; cases h) (.inl rfl) (WV.apk sl22 rfl rfl ho1213 ho1199.rd (by simp; omega) (by simp; omega) (fun b hb _ e => Nat.lt_irrefl _ (Nat.lt_of_lt_of_le (a1195 b e) hb)))) ?_ ?_
            · -- kept
              rintro v1218 H1219 ⟨hx1220, ho1221, hb1222⟩
              have ho1223 := ho1221.narrow (ok' := fun b => H1112.bd ≤ b) kI_flat (fun b q => (hb1222 b q).elim (fun e => (ho1213.blk b e).1) (fun e => Nat.le_trans X1209.bd e))
              have q1224 := Nat.le_trans q1200 hx1220.bd
              have q1225 := Nat.le_trans q1201 hx1220.bd
              have q1226 := Nat.le_trans q1202 hx1220.bd
              have q1227 := Nat.le_trans q1203 hx1220.bd
              have q1228 := Nat.le_trans q1204 hx1220.bd
              have q1229 := Nat.le_trans q1205 hx1220.bd
              have X1230 := Ext.thru X1206 hx1220 (fun b hb => Nat.le_trans o1159 (ho1213.blk b hb).1)
              have X1231 := Ext.thru X1207 hx1220 (fun b hb => Nat.le_trans o1160 (ho1213.blk b hb).1)
              have X1232 := Ext.thru X1208 hx1220 (fun b hb => Nat.le_trans o1161 (ho1213.blk b hb).1)
              have X1233 := Ext.thru X1209 hx1220 (fun b hb => Nat.le_trans o1162 (ho1213.blk b hb).1)
              have q1235 := Nat.le_trans X1210.bd hx1220.bd
              have q1237 := Nat.le_trans X1217.bd hx1220.bd
              have ho1238 := ho1211.but hx1220 (fun b hb _ e => by have h1 : (H991.bd ≤ b ∧ b ≠ b977) ∧ b < H1112.bd := hb; have h2 : H1112.bd ≤ b := (ho1213.blk b e).1; omega) (fun b hb => (ho1213.blk b hb).2.2)
              have hb1241 := hb1214.but hx1220 (fun e => by have q : H1112.bd ≤ _ := (ho1213.blk _ e).1; omega)
              have hb1242 := hb1215.but hx1220 (fun e => by have q : H1112.bd ≤ _ := (ho1213.blk _ e).1; omega)
              refine .inr (.inr ?_)
              exact (kept_cons (.inl rfl) (kept_cons (.inl rfl) (kept_cons (.inr ⟨_, _, _, rfl, rfl, rfl, (RV.of (by intro _ _ h; cases h) (.inl rfl) (fun _ xd => HV.lda (cs := [.int .i64 p, .int .i64 k, v1091]) rfl va29 (fun j u hu => rdc_ext xd ((at_cells hb1242 rfl) j u hu))))⟩) kept_nil)))
            rintro v1218 H1219 ⟨hx1220, ho1221, hb1222⟩
            have ho1223 := ho1221.narrow (ok' := fun b => H1112.bd ≤ b) kI_flat (fun b q => (hb1222 b q).elim (fun e => (ho1213.blk b e).1) (fun e => Nat.le_trans X1209.bd e))
            have q1243 := Nat.le_trans q1200 hx1220.bd
            have q1244 := Nat.le_trans q1201 hx1220.bd
            have q1245 := Nat.le_trans q1202 hx1220.bd
            have q1246 := Nat.le_trans q1203 hx1220.bd
            have q1247 := Nat.le_trans q1204 hx1220.bd
            have q1248 := Nat.le_trans q1205 hx1220.bd
            have X1249 := Ext.thru X1206 hx1220 (fun b hb => Nat.le_trans o1159 (ho1213.blk b hb).1)
            have X1250 := Ext.thru X1207 hx1220 (fun b hb => Nat.le_trans o1160 (ho1213.blk b hb).1)
            have X1251 := Ext.thru X1208 hx1220 (fun b hb => Nat.le_trans o1161 (ho1213.blk b hb).1)
            have X1252 := Ext.thru X1209 hx1220 (fun b hb => Nat.le_trans o1162 (ho1213.blk b hb).1)
            have q1254 := Nat.le_trans X1210.bd hx1220.bd
            have q1256 := Nat.le_trans X1217.bd hx1220.bd
            have ho1257 := ho1211.but hx1220 (fun b hb _ e => by have h1 : (H991.bd ≤ b ∧ b ≠ b977) ∧ b < H1112.bd := hb; have h2 : H1112.bd ≤ b := (ho1213.blk b e).1; omega) (fun b hb => (ho1213.blk b hb).2.2)
            have hb1260 := hb1214.but hx1220 (fun e => by have q : H1112.bd ≤ _ := (ho1213.blk _ e).1; omega)
            have hb1261 := hb1215.but hx1220 (fun e => by have q : H1112.bd ≤ _ := (ho1213.blk _ e).1; omega)
            have X1262 := Ext.refl H1219
            have y1263 := hb1260.lt
            have y1264 := hb1261.lt
            have o1265 := X1249.bd
            have o1266 := X1250.bd
            have o1267 := X1251.bd
            have o1268 := X1252.bd
            have o1269 := X1262.bd
            have a1270 := ho1257.ltb
            have a1271 := ho1223.ltb
            refine Dr.eff 6 _ _ rfl (by intro d h; cases h; exact ⟨rfl, rfl⟩) rfl rfl rfl (EC.of (by intro _ _ h; cases h) (.inl rfl) (WV.call fn75 rfl (implSol_ok p k (rd_ofO ho1257.rd) ho1223.rd hF.q hk0 cr1 (by omega) (by rw [cr2]; omega) cr3 cr4))) (fun v H' h => .inl (h.2)) ?_
            rintro _ H1273 ⟨⟨v1272, rfl, hv1275⟩, hx1274⟩
            have q1276 := Nat.le_trans q1243 hx1274.bd
            have q1277 := Nat.le_trans q1244 hx1274.bd
            have q1278 := Nat.le_trans q1245 hx1274.bd
            have q1279 := Nat.le_trans q1246 hx1274.bd
            have q1280 := Nat.le_trans q1247 hx1274.bd
            have q1281 := Nat.le_trans q1248 hx1274.bd
            have q1282 := Nat.le_trans q1254 hx1274.bd
            have q1283 := Nat.le_trans q1256 hx1274.bd
            have X1284 := Ext.trans X1249 hx1274
            have X1285 := Ext.trans X1250 hx1274
            have X1286 := Ext.trans X1251 hx1274
            have X1287 := Ext.trans X1252 hx1274
            have X1288 := Ext.trans X1262 hx1274
            have ho1289 := ho1257.ext hx1274
            have ho1290 := ho1223.ext hx1274
            have hb1291 := hb1260.ext hx1274
            have hb1292 := hb1261.ext hx1274
            have X1293 := Ext.refl H1273
            refine Dr.read 7 _ 44 _ rfl rfl rfl rfl rfl (RV.of (by intro _ _ h; cases h) (.inl rfl) (fun _ xd => HV.mv rfl)) ?_
            refine Dr.read 8 _ 52 _ rfl rfl rfl rfl rfl (RV.of (by intro _ _ h; cases h) (.inl rfl) (fun _ xd => HV.ex rfl rfl)) ?_
            refine Dr.read 9 _ 53 _ rfl rfl rfl rfl rfl (RV.of (by intro _ _ h; cases h) (.inl rfl) (fun _ xd => HV.ex rfl rfl)) ?_
            refine Dr.read 10 _ 12 _ rfl rfl rfl rfl rfl (RV.of (by intro _ _ h; cases h) (.inl rfl) (fun _ xd => HV.as rfl)) ?_
            refine Dr.read 11 _ 13 _ rfl rfl rfl rfl rfl (RV.of (by intro _ _ h; cases h) (.inl rfl) (fun _ xd => HV.as rfl)) ?_
            refine Dr.fin rfl ?_
            refine nrm_and ?_
            refine AW.seq ?_
            refine AW.rs ?_
            refine AL.val rfl (.inl rfl) (HV.mv rfl) ?_
            refine AL.val rfl (.inl rfl) (HV.not rfl) ?_
            refine AL.nx ?_
            refine AW.cond rfl (fun c1295 => ?_) (fun c1295 => ?_)
            · -- then
              refine AW.rs ?_
              refine AL.val rfl (.inl rfl) (HV.as rfl) ?_
              refine AL.val rfl (.inl rfl) (HV.as rfl) ?_
              refine AL.nx ?_
              refine AW.ret ?_
              refine ret_and ?_
              refine post_two rfl rfl rfl ?_ (.inr rfl)
              have hcp := cp_6 hwz hsb (show (cpM o p k l g h s).2 = false from bnot_t c1295); exact ⟨⟨_, by rw [hcp.1], by rw [hcp.2]; exact .inl (OwnK.nil _)⟩, X1284⟩
            · -- else
              refine AW.skip ?_
              refine nrm_and ?_
              refine AW.rs ?_
              have hb0 : (cpM o p k l g h s).2 = true := bnot_f c1295
              have hsl := cr5 hb0
              unfold cpM cpR at hsl
              refine AL.val rfl (.inl rfl) (HV.mv rfl) ?_
              obtain ⟨v1296, ho1297, hP1298⟩ := OwnT.cut hv1275 (by omega) sl22
              refine AL.val rfl (.inl rfl) (hP1298 rfl rfl) ?_
              refine AL.val rfl (.inl rfl) (HV.as rfl) ?_
              refine AL.val rfl (.inl rfl) (HV.as rfl) ?_
              refine AL.nx ?_
              refine AW.ret ?_
              refine post_two rfl rfl rfl ?_ (.inr rfl)
              have hcp := cp_0 hwz hsb hb0; exact ⟨⟨_, by rw [hcp.1], by rw [hcp.2]; exact ho1297.okk (fun b hb _ => Nat.le_trans o1265 hb)⟩, X1284⟩
          · -- 4 first
            have X1299 := Ext.refl H1112
            have y1300 := hb1126.lt
            have y1301 := hb1127.lt
            have o1302 := X1121.bd
            have o1303 := X1122.bd
            have o1304 := X1123.bd
            have o1305 := X1299.bd
            have a1306 := ho1124.ltb
            have ho1307 := ho1124.okk (ok' := fun b => (H991.bd ≤ b ∧ b ≠ b977) ∧ b < H1112.bd) (fun b hb hlt => ⟨hb, hlt⟩)
            have a1308 := ho1125.ltb
            rintro v1309 H1310 ⟨hx1311, ho1312⟩
            have q1313 := Nat.le_trans q1115 hx1311.bd
            have q1314 := Nat.le_trans q1116 hx1311.bd
            have q1315 := Nat.le_trans q1117 hx1311.bd
            have q1316 := Nat.le_trans q1118 hx1311.bd
            have q1317 := Nat.le_trans q1119 hx1311.bd
            have q1318 := Nat.le_trans q1120 hx1311.bd
            have X1319 := Ext.trans X1121 hx1311
            have X1320 := Ext.trans X1122 hx1311
            have X1321 := Ext.trans X1123 hx1311
            have X1322 := Ext.trans X1299 hx1311
            have ho1323 := ho1307.ext hx1311
            have ho1324 := ho1125.ext hx1311
            have hb1325 := hb1126.ext hx1311
            have hb1326 := hb1127.ext hx1311
            have X1328 := Ext.refl H1310
            have y1329 := hb1325.lt
            have y1330 := hb1326.lt
            have o1331 := X1319.bd
            have o1332 := X1320.bd
            have o1333 := X1321.bd
            have o1334 := X1322.bd
            have o1335 := X1328.bd
            have a1336 := ho1323.ltb
            have a1337 := ho1324.ltb
            have a1338 := ho1312.ltb
            refine Dr.eff 2 _ _ rfl (by intro d h; cases h; exact ⟨rfl, rfl⟩) rfl rfl rfl (EC.of (by intro _ _ h; cases h) (.inl rfl) (WV.call fn87 rfl (cloneI_ok (hrh.ext X1319) (by omega)))) (fun v H' h => .inl (h.1)) ?_
            rintro v1339 H1340 ⟨hx1341, ho1342⟩
            have q1343 := Nat.le_trans q1313 hx1341.bd
            have q1344 := Nat.le_trans q1314 hx1341.bd
            have q1345 := Nat.le_trans q1315 hx1341.bd
            have q1346 := Nat.le_trans q1316 hx1341.bd
            have q1347 := Nat.le_trans q1317 hx1341.bd
            have q1348 := Nat.le_trans q1318 hx1341.bd
            have X1349 := Ext.trans X1319 hx1341
            have X1350 := Ext.trans X1320 hx1341
            have X1351 := Ext.trans X1321 hx1341
            have X1352 := Ext.trans X1322 hx1341
            have X1353 := Ext.trans X1328 hx1341
            have ho1354 := ho1323.ext hx1341
            have ho1355 := ho1324.ext hx1341
            have ho1356 := ho1312.ext hx1341
            have hb1357 := hb1325.ext hx1341
            have hb1358 := hb1326.ext hx1341
            have X1360 := Ext.refl H1340
            refine Dr.eff 5 _ _ rfl (by intro d h; cases h; exact ⟨rfl, rfl⟩) rfl rfl rfl (EC.of (by intro _ _ h; cases h) (.inl rfl) (WV.apk sl22 rfl rfl ho1342 (OwnK.narrow (ok' := fun b => some b = v1309.ownBlock) kI_flat ho1356 (fun b q => q)).rd (by simp; omega) (by simp; omega) (fun b hb _ e => by have h1 := a1338 b hb; have h2 : H1310.bd ≤ b := (ho1342.blk b e).1; omega))) ?_ ?_
            · -- kept
              rintro v1361 H1362 ⟨hx1363, ho1364, hb1365⟩
              have ho1366 := ho1364.narrow (ok' := fun b => H1310.bd ≤ b) kI_flat (fun b q => (hb1365 b q).elim (fun e => (ho1342.blk b e).1) (fun e => Nat.le_trans X1353.bd e))
              have q1367 := Nat.le_trans q1343 hx1363.bd
              have q1368 := Nat.le_trans q1344 hx1363.bd
              have q1369 := Nat.le_trans q1345 hx1363.bd
              have q1370 := Nat.le_trans q1346 hx1363.bd
              have q1371 := Nat.le_trans q1347 hx1363.bd
              have q1372 := Nat.le_trans q1348 hx1363.bd
              have X1373 := Ext.thru X1349 hx1363 (fun b hb => Nat.le_trans o1331 (ho1342.blk b hb).1)
              have X1374 := Ext.thru X1350 hx1363 (fun b hb => Nat.le_trans o1332 (ho1342.blk b hb).1)
              have X1375 := Ext.thru X1351 hx1363 (fun b hb => Nat.le_trans o1333 (ho1342.blk b hb).1)
              have X1376 := Ext.thru X1352 hx1363 (fun b hb => Nat.le_trans o1334 (ho1342.blk b hb).1)
              have X1377 := Ext.thru X1353 hx1363 (fun b hb => Nat.le_trans o1335 (ho1342.blk b hb).1)
              have q1379 := Nat.le_trans X1360.bd hx1363.bd
              have ho1380 := ho1354.but hx1363 (fun b hb _ e => by have h1 : (H991.bd ≤ b ∧ b ≠ b977) ∧ b < H1112.bd := hb; have h2 : H1310.bd ≤ b := (ho1342.blk b e).1; omega) (fun b hb => (ho1342.blk b hb).2.2)
              have hb1383 := hb1357.but hx1363 (fun e => by have q : H1310.bd ≤ _ := (ho1342.blk _ e).1; omega)
              have hb1384 := hb1358.but hx1363 (fun e => by have q : H1310.bd ≤ _ := (ho1342.blk _ e).1; omega)
              refine .inr (.inr ?_)
              exact (kept_cons (.inl rfl) (kept_cons (.inl rfl) (kept_cons (.inr ⟨_, _, _, rfl, rfl, rfl, (RV.of (by intro _ _ h; cases h) (.inl rfl) (fun _ xd => HV.lda (cs := [.int .i64 p, .int .i64 k, v1091]) rfl va29 (fun j u hu => rdc_ext xd ((at_cells hb1384 rfl) j u hu))))⟩) kept_nil)))
            rintro v1361 H1362 ⟨hx1363, ho1364, hb1365⟩
            have ho1366 := ho1364.narrow (ok' := fun b => H1310.bd ≤ b) kI_flat (fun b q => (hb1365 b q).elim (fun e => (ho1342.blk b e).1) (fun e => Nat.le_trans X1353.bd e))
            have q1385 := Nat.le_trans q1343 hx1363.bd
            have q1386 := Nat.le_trans q1344 hx1363.bd
            have q1387 := Nat.le_trans q1345 hx1363.bd
            have q1388 := Nat.le_trans q1346 hx1363.bd
            have q1389 := Nat.le_trans q1347 hx1363.bd
            have q1390 := Nat.le_trans q1348 hx1363.bd
            have X1391 := Ext.thru X1349 hx1363 (fun b hb => Nat.le_trans o1331 (ho1342.blk b hb).1)
            have X1392 := Ext.thru X1350 hx1363 (fun b hb => Nat.le_trans o1332 (ho1342.blk b hb).1)
            have X1393 := Ext.thru X1351 hx1363 (fun b hb => Nat.le_trans o1333 (ho1342.blk b hb).1)
            have X1394 := Ext.thru X1352 hx1363 (fun b hb => Nat.le_trans o1334 (ho1342.blk b hb).1)
            have X1395 := Ext.thru X1353 hx1363 (fun b hb => Nat.le_trans o1335 (ho1342.blk b hb).1)
            have q1397 := Nat.le_trans X1360.bd hx1363.bd
            have ho1398 := ho1354.but hx1363 (fun b hb _ e => by have h1 : (H991.bd ≤ b ∧ b ≠ b977) ∧ b < H1112.bd := hb; have h2 : H1310.bd ≤ b := (ho1342.blk b e).1; omega) (fun b hb => (ho1342.blk b hb).2.2)
            have hb1401 := hb1357.but hx1363 (fun e => by have q : H1310.bd ≤ _ := (ho1342.blk _ e).1; omega)
            have hb1402 := hb1358.but hx1363 (fun e => by have q : H1310.bd ≤ _ := (ho1342.blk _ e).1; omega)
            have X1403 := Ext.refl H1362
            have y1404 := hb1401.lt
            have y1405 := hb1402.lt
            have o1406 := X1391.bd
            have o1407 := X1392.bd
            have o1408 := X1393.bd
            have o1409 := X1394.bd
            have o1410 := X1395.bd
            have o1411 := X1403.bd
            have a1412 := ho1398.ltb
            have a1413 := ho1366.ltb
            refine Dr.eff 6 _ _ rfl (by intro d h; cases h; exact ⟨rfl, rfl⟩) rfl rfl rfl (EC.of (by intro _ _ h; cases h) (.inl rfl) (WV.call fn75 rfl (implSol_ok p k (rd_ofO ho1398.rd) ho1366.rd hF.q hk0 cr1 (by omega) (by rw [cr2]; omega) cr3 cr4))) (fun v H' h => .inl (h.2)) ?_
            rintro _ H1415 ⟨⟨v1414, rfl, hv1417⟩, hx1416⟩
            have q1418 := Nat.le_trans q1385 hx1416.bd
            have q1419 := Nat.le_trans q1386 hx1416.bd
            have q1420 := Nat.le_trans q1387 hx1416.bd
            have q1421 := Nat.le_trans q1388 hx1416.bd
            have q1422 := Nat.le_trans q1389 hx1416.bd
            have q1423 := Nat.le_trans q1390 hx1416.bd
            have q1424 := Nat.le_trans q1397 hx1416.bd
            have X1425 := Ext.trans X1391 hx1416
            have X1426 := Ext.trans X1392 hx1416
            have X1427 := Ext.trans X1393 hx1416
            have X1428 := Ext.trans X1394 hx1416
            have X1429 := Ext.trans X1395 hx1416
            have X1430 := Ext.trans X1403 hx1416
            have ho1431 := ho1398.ext hx1416
            have ho1432 := ho1366.ext hx1416
            have hb1433 := hb1401.ext hx1416
            have hb1434 := hb1402.ext hx1416
            have X1435 := Ext.refl H1415
            refine Dr.read 7 _ 44 _ rfl rfl rfl rfl rfl (RV.of (by intro _ _ h; cases h) (.inl rfl) (fun _ xd => HV.mv rfl)) ?_
            refine Dr.read 8 _ 52 _ rfl rfl rfl rfl rfl (RV.of (by intro _ _ h; cases h) (.inl rfl) (fun _ xd => HV.ex rfl rfl)) ?_
            refine Dr.read 9 _ 53 _ rfl rfl rfl rfl rfl (RV.of (by intro _ _ h; cases h) (.inl rfl) (fun _ xd => HV.ex rfl rfl)) ?_
            refine Dr.read 10 _ 12 _ rfl rfl rfl rfl rfl (RV.of (by intro _ _ h; cases h) (.inl rfl) (fun _ xd => HV.as rfl)) ?_
            refine Dr.read 11 _ 13 _ rfl rfl rfl rfl rfl (RV.of (by intro _ _ h; cases h) (.inl rfl) (fun _ xd => HV.as rfl)) ?_
            refine Dr.fin rfl ?_
            refine nrm_and ?_
            refine AW.seq ?_
            refine AW.rs ?_
            refine AL.val rfl (.inl rfl) (HV.mv rfl) ?_
            refine AL.val rfl (.inl rfl) (HV.not rfl) ?_
            refine AL.nx ?_
            refine AW.cond rfl (fun c1437 => ?_) (fun c1437 => ?_)
            · -- then
              refine AW.rs ?_
              refine AL.val rfl (.inl rfl) (HV.as rfl) ?_
              refine AL.val rfl (.inl rfl) (HV.as rfl) ?_
              refine AL.nx ?_
              refine AW.ret ?_
              refine ret_and ?_
              refine post_two rfl rfl rfl ?_ (.inr rfl)
              have hcp := cp_6 hwz hsb (show (cpM o p k l g h s).2 = false from bnot_t c1437); exact ⟨⟨_, by rw [hcp.1], by rw [hcp.2]; exact .inl (OwnK.nil _)⟩, X1425⟩
            · -- else
              refine AW.skip ?_
              refine nrm_and ?_
              refine AW.rs ?_
              have hb0 : (cpM o p k l g h s).2 = true := bnot_f c1437
              have hsl := cr5 hb0
              unfold cpM cpR at hsl
              refine AL.val rfl (.inl rfl) (HV.mv rfl) ?_
              obtain ⟨v1438, ho1439, hP1440⟩ := OwnT.cut hv1417 (by omega) sl22
              refine AL.val rfl (.inl rfl) (hP1440 rfl rfl) ?_
              refine AL.val rfl (.inl rfl) (HV.as rfl) ?_
              refine AL.val rfl (.inl rfl) (HV.as rfl) ?_
              refine AL.nx ?_
              refine AW.ret ?_
              refine post_two rfl rfl rfl ?_ (.inr rfl)
              have hcp := cp_0 hwz hsb hb0; exact ⟨⟨_, by rw [hcp.1], by rw [hcp.2]; exact ho1439.okk (fun b hb _ => Nat.le_trans o1406 hb)⟩, X1425⟩
  · -- false
    have c18_ : decide ((withC n o p k l g h) = 0) = false := decide_eq_false c18
    rw [c18_]
    refine AL.off rfl rfl (by decide) rfl ?_
    refine AL.off rfl rfl (by decide) rfl ?_
    refine AL.off rfl rfl (by decide) rfl ?_
    refine AL.off rfl rfl (by decide) rfl ?_
    refine AL.off rfl rfl (by decide) rfl ?_
    refine AL.off rfl rfl (by decide) rfl ?_
    refine AL.off rfl rfl (by decide) rfl ?_
    refine AL.val rfl (.inl rfl) (HV.pickF rfl rfl) ?_
    refine AL.nx ?_
    refine AW.cond rfl (fun h => by cases h) (fun _ => ?_)
    refine AW.skip ?_
    refine nrm_and ?_
    refine AW.seq ?_
    refine AW.rs ?_
    refine AL.val rfl (.inl rfl) (HV.mv rfl) ?_
    refine AL.val rfl (.inl rfl) (HV.nei rfl rfl) ?_
    refine AL.nx ?_
    refine AW.ifd rfl (fun c1442 => ?_) (fun c1442 => ?_)
    · -- then
      refine AW.rs ?_
      refine AL.val rfl (.inl rfl) (HV.mv rfl) ?_
      refine AL.val rfl (.inl rfl) (HV.as rfl) ?_
      refine AL.val rfl (.inl rfl) (HV.as rfl) ?_
      refine AL.nx ?_
      refine AW.ret ?_
      refine ret_and ?_
      refine post_two rfl rfl rfl ?_ (.inr rfl)
      have hcp := cp_with (s := s) (by assumption); exact ⟨⟨_, by rw [hcp.1], by rw [hcp.2]; exact .inl (OwnK.nil _)⟩, X15⟩
    · -- else
      exfalso; omega

set_option maxRecDepth 100000 in
theorem law_Completion {vo v : Value} {o : List Int} {l : List (List Int)} {oko ok : Nat → Prop} (n p k : Int) (ho : RdK kI W H oko vo o) (hr : RdK (kR kI) W H ok v l) {vg : Value} {g : List Int} {okg : Nat → Prop} (hrg : RdK kI W H okg vg g) {vh : Value} {h : List Int} {okh : Nat → Prop} (hrh : RdK kI W H okh vh h) (s : Int) (hW : W.heap.size ≤ H.bd) : ACalls Try.prog W 7 #[.agg #[.int .i64 n, vo, .int .i64 p, .int .i64 k, v], vg, vh, .int .i64 s] H (fun r H' => r = .bool true ∧ Ext H H') := by
  refine ACalls.of (args := [.agg #[.int .i64 n, vo, .int .i64 p, .int .i64 k, v], vg, vh, .int .i64 s]) Try.func7 rfl rfl ?_
  have X0 := Ext.refl H
  have hm1 := ho.max
  have hm2 := hr.max
  have hm3 := hrg.max
  have hm4 := hrh.max
  refine AW.rs ?_
  refine AL.w rfl (.inl rfl) (WV.bx rfl rfl) ?_
  rintro _ H6 ⟨b5, rfl, hx7, hn8, hb9⟩
  have o10 := Nat.le_trans X0.bd hn8
  have X11 := Ext.trans X0 hx7
  have X12 := Ext.refl H6
  refine AL.val rfl (.inl rfl) (HV.as rfl) ?_
  refine AL.nx ?_
  refine AW.seq ?_
  refine AW.rs ?_
  refine AL.val rfl (.inl rfl) (HV.mv rfl) ?_
  refine AL.val rfl (.inl rfl) (HV.len Try.underlying22 rfl hrg.isSl) ?_
  refine AL.val rfl (.inl rfl) (HV.gti rfl rfl) ?_
  refine AL.nx ?_
  refine AW.ifd rfl (fun c13 => ?_) (fun c13 => ?_)
  · -- then
    refine AW.rs ?_
    refine AL.val rfl (.inl rfl) (HV.as rfl) ?_
    refine AL.nx ?_
    refine AW.ret ?_
    refine ret_and ?_
    refine post_one rfl rfl ?_ (.inr rfl)
    exact ⟨rfl, X11⟩
  · -- else
    refine AW.skip ?_
    refine nrm_and ?_
    refine AW.seq ?_
    refine AW.rs ?_
    refine AL.val rfl (.inl rfl) (HV.mv rfl) ?_
    refine AL.val rfl (.inl rfl) (HV.len Try.underlying22 rfl hrh.isSl) ?_
    refine AL.val rfl (.inl rfl) (HV.gti rfl rfl) ?_
    refine AL.nx ?_
    refine AW.ifd rfl (fun c14 => ?_) (fun c14 => ?_)
    · -- then
      refine AW.rs ?_
      refine AL.val rfl (.inl rfl) (HV.as rfl) ?_
      refine AL.nx ?_
      refine AW.ret ?_
      refine ret_and ?_
      refine post_one rfl rfl ?_ (.inr rfl)
      exact ⟨rfl, X11⟩
    · -- else
      refine AW.skip ?_
      refine nrm_and ?_
      refine AW.rs ?_
      refine AL.val rfl (.inl rfl) (HV.as rfl) ?_
      refine AL.nx ?_
      refine AW.rs ?_
      refine AL.val rfl (.inl rfl) (HV.lda (cs := [.int .i64 n, vo, .int .i64 p, .int .i64 k, v]) rfl va27 (at_cells hb9 rfl)) ?_
      refine AL.val rfl (.inl rfl) (HV.mv rfl) ?_
      refine AL.w rfl (.inl rfl) (WV.call fn13 rfl (szSc_ok n p k (ho.ext X11) (hr.ext X11) 1048576 (by omega))) ?_
      rintro _ H15 ⟨⟨q17, rfl, ha18, hb19, he20⟩, hx16⟩
      have X21 := Ext.trans X11 hx16
      have X22 := Ext.trans X12 hx16
      have hb23 := hb9.ext hx16
      refine AL.val rfl (.inl rfl) (HV.as rfl) ?_
      refine AL.nx ?_
      refine AW.seq ?_
      refine AW.rs ?_
      refine AL.val rfl (.inl rfl) (HV.mv rfl) ?_
      refine AL.val rfl (.inl rfl) (HV.lti rfl rfl) ?_
      refine AL.nx ?_
      refine AW.ifd rfl (fun c24 => ?_) (fun c24 => ?_)
      · -- then
        refine AW.rs ?_
        refine AL.val rfl (.inl rfl) (HV.as rfl) ?_
        refine AL.nx ?_
        refine AW.ret ?_
        refine ret_and ?_
        refine post_one rfl rfl ?_ (.inr rfl)
        exact ⟨rfl, X21⟩
      · -- else
        refine AW.skip ?_
        refine nrm_and ?_
        refine AW.rs ?_
        refine AL.val rfl (.inl rfl) (HV.lda (cs := [.int .i64 n, vo, .int .i64 p, .int .i64 k, v]) rfl va27 (at_cells hb23 rfl)) ?_
        refine AL.w rfl (.inl rfl) (WV.call fn15 rfl (toSc_ok n p k (ho.ext X21) (hr.ext X21) (he20 (by omega)).1 (he20 (by omega)).2)) ?_
        rintro _ H28 ⟨⟨u25, v26, B27, rfl, ho30, ho31⟩, hx29⟩
        have X34 := Ext.trans X21 hx29
        have X35 := Ext.trans X22 hx29
        have hb36 := hb23.ext hx29
        have X37 := Ext.refl H28
        have hr32 := ho30.rd
        have hr33 := rd_ofO ho31.rd
        refine AL.val rfl (.inl rfl) (HV.mv rfl) ?_
        refine AL.w rfl (.inl rfl) (WV.call fn21 rfl (toS_ok (hrg.ext X34) (by omega))) ?_
        rintro v38 H39 ⟨hx40, ho41⟩
        have X43 := Ext.trans X34 hx40
        have X44 := Ext.trans X35 hx40
        have X45 := Ext.trans X37 hx40
        have hb46 := hb36.ext hx40
        have X47 := Ext.refl H39
        have hr42 : RdK kI W H39 _ v38 g := ho41.rd
        refine AL.val rfl (.inl rfl) (HV.mv rfl) ?_
        refine AL.w rfl (.inl rfl) (WV.call fn21 rfl (toS_ok (hrh.ext X43) (by omega))) ?_
        rintro v48 H49 ⟨hx50, ho51⟩
        have X53 := Ext.trans X43 hx50
        have X54 := Ext.trans X44 hx50
        have X55 := Ext.trans X45 hx50
        have X56 := Ext.trans X47 hx50
        have hb57 := hb46.ext hx50
        have X58 := Ext.refl H49
        have hr52 : RdK kI W H49 _ v48 h := ho51.rd
        refine AL.val rfl (.inl rfl) (HV.mv rfl) ?_
        have y59 := hb57.lt
        have o60 := X53.bd
        have o61 := X54.bd
        have o62 := X55.bd
        have o63 := X56.bd
        have o64 := X58.bd
        refine AL.w rfl (.inl rfl) (WV.call fn30 rfl (specCP_ok n p k (hr32.ext X55) (hr33.ext X55) (hr42.ext X56) hr52 s)) ?_
        rintro _ H66 ⟨⟨v65, rfl, ho68⟩, hx67⟩
        have X69 := Ext.trans X53 hx67
        have X70 := Ext.trans X54 hx67
        have X71 := Ext.trans X55 hx67
        have X72 := Ext.trans X56 hx67
        have X73 := Ext.trans X58 hx67
        have hb74 := hb57.ext hx67
        have X75 := Ext.refl H66
        have hr76 := ho68.rd
        refine AL.val rfl (.inl rfl) (HV.mv rfl) ?_
        refine AL.val rfl (.inl rfl) (HV.ex rfl rfl) ?_
        refine AL.val rfl (.inl rfl) (HV.ex rfl rfl) ?_
        refine AL.val rfl (.inl rfl) (HV.as rfl) ?_
        refine AL.val rfl (.inl rfl) (HV.as rfl) ?_
        refine AL.nx ?_
        refine AW.rs ?_
        refine AL.val rfl (.inl rfl) (HV.lda (cs := [.int .i64 n, vo, .int .i64 p, .int .i64 k, v]) rfl va27 (at_cells hb74 rfl)) ?_
        have y77 := hb74.lt
        have o78 := X69.bd
        have o79 := X70.bd
        have o80 := X71.bd
        have o81 := X72.bd
        have o82 := X73.bd
        have o83 := X75.bd
        refine AL.w rfl (.inl rfl) (WV.call fn15 rfl (toSc_ok n p k (ho.ext X69) (hr.ext X69) (he20 (by omega)).1 (he20 (by omega)).2)) ?_
        rintro _ H87 ⟨⟨u84, v85, B86, rfl, ho89, ho90⟩, hx88⟩
        have X93 := Ext.trans X69 hx88
        have X94 := Ext.trans X70 hx88
        have X95 := Ext.trans X71 hx88
        have X96 := Ext.trans X72 hx88
        have X97 := Ext.trans X73 hx88
        have X98 := Ext.trans X75 hx88
        have hb99 := hb74.ext hx88
        have X100 := Ext.refl H87
        have ho91 := ho89.okk (ok' := fun b => (H66.bd ≤ b ∧ b < B86) ∧ b < H87.bd) (fun b hb hlt => ⟨hb, hlt⟩)
        have ho92 := ho90.okk (ok' := fun b => (H66.bd ≤ b ∧ B86 ≤ b) ∧ b < H87.bd) (fun b hb hlt => ⟨hb, hlt⟩)
        refine AL.w rfl (.inl rfl) (WV.al ze31 rfl) ?_
        rintro _ H104 ⟨b103, rfl, hx105, hn106, hb107⟩
        have o108 := Nat.le_trans X93.bd hn106
        have o109 := Nat.le_trans X94.bd hn106
        have o110 := Nat.le_trans X95.bd hn106
        have o111 := Nat.le_trans X96.bd hn106
        have o112 := Nat.le_trans X97.bd hn106
        have o113 := Nat.le_trans X98.bd hn106
        have o114 := Nat.le_trans X100.bd hn106
        have ne115 : b5 ≠ b103 := by have := hb99.lt; omega
        have X116 := Ext.trans X93 hx105
        have X117 := Ext.trans X94 hx105
        have X118 := Ext.trans X95 hx105
        have X119 := Ext.trans X96 hx105
        have X120 := Ext.trans X97 hx105
        have X121 := Ext.trans X98 hx105
        have X122 := Ext.trans X100 hx105
        have ho123 := ho91.ext hx105
        have ho124 := ho92.ext hx105
        have hb125 := hb99.ext hx105
        have X126 := Ext.refl H104
        refine AL.w0 (.inl rfl) (WV.st rfl rfl va31 rfl hb107 (Nat.le_of_ble_eq_true rfl) (one_cons rfl (one_cons (sl_one1 ho123.rd.isSl) (one_cons rfl (one_cons rfl (one_cons (sl_one1 (rd_ofO ho124.rd).isSl) one_nil)))))) ?_
        rintro _ H127 ⟨hx128, hb129⟩
        have X130 := Ext.thru X116 hx128 (fun z_ hz_ => by rw [hz_]; exact o108)
        have X131 := Ext.thru X117 hx128 (fun z_ hz_ => by rw [hz_]; exact o109)
        have X132 := Ext.thru X118 hx128 (fun z_ hz_ => by rw [hz_]; exact o110)
        have X133 := Ext.thru X119 hx128 (fun z_ hz_ => by rw [hz_]; exact o111)
        have X134 := Ext.thru X120 hx128 (fun z_ hz_ => by rw [hz_]; exact o112)
        have X135 := Ext.thru X121 hx128 (fun z_ hz_ => by rw [hz_]; exact o113)
        have X136 := Ext.thru X122 hx128 (fun z_ hz_ => by rw [hz_]; exact o114)
        have ho138 := ho123.but hx128 (fun b hb _ e => by have hb' : (H66.bd ≤ b ∧ b < B86) ∧ b < H87.bd := hb; have e' : b = b103 := e; omega) (fun z_ hz_ => by rw [hz_]; exact hb107.w)
        have ho139 := ho124.but hx128 (fun b hb _ e => by have hb' : (H66.bd ≤ b ∧ B86 ≤ b) ∧ b < H87.bd := hb; have e' : b = b103 := e; omega) (fun z_ hz_ => by rw [hz_]; exact hb107.w)
        have hb140 := hb125.but hx128 ne115
        have hb141 : At W H127 b103 ⟨31, [.int .i64 n, u84, .int .i64 p, .int .i64 k, v85], 5⟩ := hb129
        refine AL.nx ?_
        refine AW.rs ?_
        refine AL.val rfl (.inl rfl) (HV.mv rfl) ?_
        have X142 := Ext.refl H127
        have y143 := hb140.lt
        have y144 := hb141.lt
        have o145 := X130.bd
        have o146 := X131.bd
        have o147 := X132.bd
        have o148 := X133.bd
        have o149 := X134.bd
        have o150 := X135.bd
        have o151 := X136.bd
        have o152 := X142.bd
        have a153 := ho138.ltb
        have a154 := ho139.ltb
        refine AL.w rfl (.inl rfl) (WV.call fn21 rfl (toS_ok (hrg.ext X130) (by omega))) ?_
        rintro v155 H156 ⟨hx157, ho158⟩
        have X160 := Ext.trans X130 hx157
        have X161 := Ext.trans X131 hx157
        have X162 := Ext.trans X132 hx157
        have X163 := Ext.trans X133 hx157
        have X164 := Ext.trans X134 hx157
        have X165 := Ext.trans X135 hx157
        have X166 := Ext.trans X136 hx157
        have X167 := Ext.trans X142 hx157
        have ho168 := ho138.ext hx157
        have ho169 := ho139.ext hx157
        have hb170 := hb140.ext hx157
        have hb171 := hb141.ext hx157
        have X172 := Ext.refl H156
        have ho159 := ho158.okk (ok' := fun b => H127.bd ≤ b ∧ b < H156.bd) (fun b hb hlt => ⟨hb, hlt⟩)
        refine AL.val rfl (.inl rfl) (HV.as rfl) ?_
        refine AL.nx ?_
        refine AW.rs ?_
        refine AL.val rfl (.inl rfl) (HV.mv rfl) ?_
        have y174 := hb170.lt
        have y175 := hb171.lt
        have o176 := X160.bd
        have o177 := X161.bd
        have o178 := X162.bd
        have o179 := X163.bd
        have o180 := X164.bd
        have o181 := X165.bd
        have o182 := X166.bd
        have o183 := X167.bd
        have o184 := X172.bd
        have a185 := ho168.ltb
        have a186 := ho169.ltb
        have a187 := ho159.ltb
        refine AL.w rfl (.inl rfl) (WV.call fn21 rfl (toS_ok (hrh.ext X160) (by omega))) ?_
        rintro v188 H189 ⟨hx190, ho191⟩
        have X193 := Ext.trans X160 hx190
        have X194 := Ext.trans X161 hx190
        have X195 := Ext.trans X162 hx190
        have X196 := Ext.trans X163 hx190
        have X197 := Ext.trans X164 hx190
        have X198 := Ext.trans X165 hx190
        have X199 := Ext.trans X166 hx190
        have X200 := Ext.trans X167 hx190
        have X201 := Ext.trans X172 hx190
        have ho202 := ho168.ext hx190
        have ho203 := ho169.ext hx190
        have ho204 := ho159.ext hx190
        have hb205 := hb170.ext hx190
        have hb206 := hb171.ext hx190
        have X207 := Ext.refl H189
        have ho192 := ho191.okk (ok' := fun b => H156.bd ≤ b ∧ b < H189.bd) (fun b hb hlt => ⟨hb, hlt⟩)
        refine AL.val rfl (.inl rfl) (HV.as rfl) ?_
        refine AL.nx ?_
        refine AW.rs ?_
        refine AL.val rfl (.inl rfl) (HV.lda (cs := [.int .i64 n, u84, .int .i64 p, .int .i64 k, v85]) rfl va31 (at_cells hb206 rfl)) ?_
        refine AL.val rfl (.inl rfl) (HV.mv rfl) ?_
        refine AL.val rfl (.inl rfl) (HV.mv rfl) ?_
        refine AL.val rfl (.inl rfl) (HV.mv rfl) ?_
        have y209 := hb205.lt
        have y210 := hb206.lt
        have o211 := X193.bd
        have o212 := X194.bd
        have o213 := X195.bd
        have o214 := X196.bd
        have o215 := X197.bd
        have o216 := X198.bd
        have o217 := X199.bd
        have o218 := X200.bd
        have o219 := X201.bd
        have o220 := X207.bd
        have a221 := ho202.ltb
        have a222 := ho203.ltb
        have a223 := ho204.ltb
        have a224 := ho192.ltb
        refine AL.w rfl (.inl rfl) (WV.call fn31 rfl (implCP_ok n p k ho202.rd (rd_ofO ho203.rd) ho204.rd ho192.rd s)) ?_
        rintro _ H226 ⟨⟨v225, rfl, ho228⟩, hx227⟩
        have X229 := Ext.trans X193 hx227
        have X230 := Ext.trans X194 hx227
        have X231 := Ext.trans X195 hx227
        have X232 := Ext.trans X196 hx227
        have X233 := Ext.trans X197 hx227
        have X234 := Ext.trans X198 hx227
        have X235 := Ext.trans X199 hx227
        have X236 := Ext.trans X200 hx227
        have X237 := Ext.trans X201 hx227
        have X238 := Ext.trans X207 hx227
        have ho239 := ho202.ext hx227
        have ho240 := ho203.ext hx227
        have ho241 := ho204.ext hx227
        have ho242 := ho192.ext hx227
        have hb243 := hb205.ext hx227
        have hb244 := hb206.ext hx227
        have X245 := Ext.refl H226
        have hlen_ := cpL_len (n := n) (o := o) (p := p) (k := k) (l := l) (g := g) (h := h) (s := s)
        refine AL.val rfl (.inl rfl) (HV.mv rfl) ?_
        refine AL.val rfl (.inl rfl) (HV.ex rfl rfl) ?_
        refine AL.val rfl (.inl rfl) (HV.ex rfl rfl) ?_
        refine AL.val rfl (.inl rfl) (HV.as rfl) ?_
        refine AL.val rfl (.inl rfl) (HV.as rfl) ?_
        refine AL.nx ?_
        refine AW.seq ?_
        refine AW.rs ?_
        refine AL.val rfl (.inl rfl) (HV.mv rfl) ?_
        refine AL.val rfl (.inl rfl) (HV.mv rfl) ?_
        refine AL.w rfl (.inl rfl) (WV.call fn23 rfl (eqS_ok ho228.rd (hr76.ext X234))) ?_
        rintro _ H247 ⟨rfl, hx248⟩
        have X249 := Ext.trans X229 hx248
        have X250 := Ext.trans X230 hx248
        have X251 := Ext.trans X231 hx248
        have X252 := Ext.trans X232 hx248
        have X253 := Ext.trans X233 hx248
        have X254 := Ext.trans X234 hx248
        have X255 := Ext.trans X235 hx248
        have X256 := Ext.trans X236 hx248
        have X257 := Ext.trans X237 hx248
        have X258 := Ext.trans X238 hx248
        have X259 := Ext.trans X245 hx248
        have ho260 := ho239.ext hx248
        have ho261 := ho240.ext hx248
        have ho262 := ho241.ext hx248
        have ho263 := ho242.ext hx248
        have ho264 := ho228.ext hx248
        have hb265 := hb243.ext hx248
        have hb266 := hb244.ext hx248
        refine AL.val rfl (.inl rfl) (HV.not rfl) ?_
        refine AL.val rfl (.inl rfl) (HV.mv rfl) ?_
        by_cases c267 : (cpL n o p k l g h s) = (cpL n o p k l g h s)
        · -- false
          have c267_ : (!decide ((cpL n o p k l g h s) = (cpL n o p k l g h s))) = false := by rw [decide_eq_true c267]; rfl
          rw [c267_]
          refine AL.val rfl (.inr ⟨_, _, _, rfl, rfl, rfl⟩) (HV.mv rfl) ?_
          refine AL.val rfl (.inr ⟨_, _, _, rfl, rfl, rfl⟩) (HV.mv rfl) ?_
          refine AL.val rfl (.inr ⟨_, _, _, rfl, rfl, rfl⟩) (HV.nei rfl rfl) ?_
          refine AL.val rfl (.inl rfl) (HV.pickF rfl rfl) ?_
          refine AL.nx ?_
          refine AW.ifd rfl (fun c268 => ?_) (fun c268 => ?_)
          · -- then
            refine AW.rs ?_
            refine AL.val rfl (.inl rfl) (HV.as rfl) ?_
            refine AL.nx ?_
            refine AW.ret ?_
            refine ret_and ?_
            refine post_one rfl rfl ?_ (.inr rfl)
            exfalso; first | omega | (simp at c268; done) | exact c268 ⟨rfl, rfl, rfl, rfl, rfl⟩ | exact absurd c268 (by simp)
          · -- else
            refine AW.skip ?_
            refine nrm_and ?_
            refine AW.seq ?_
            refine AW.seq ?_
            refine AW.draw' [0, 0, 2, 7, 15] mixed (by rfl) ?_
            refine Dr.read 0 _ 67 _ rfl rfl rfl rfl rfl (RV.of (by intro _ _ h; cases h) (.inl rfl) (fun _ xd => HV.lda (cs := [.int .i64 n, u84, .int .i64 p, .int .i64 k, v85]) rfl va31 (fun j u hu => rdc_ext xd ((at_cells hb266 rfl) j u hu)))) ?_
            refine Dr.read 1 _ 68 _ rfl rfl rfl rfl rfl (RV.of (by intro _ _ h; cases h) (.inl rfl) (fun _ xd => HV.lda (cs := [.int .i64 n, vo, .int .i64 p, .int .i64 k, v]) rfl va27 (fun j u hu => rdc_ext xd ((at_cells hb265 rfl) j u hu)))) ?_
            refine Dr.eff 2 _ _ rfl (by intro d h; cases h; exact ⟨rfl, rfl⟩) rfl rfl rfl (EC.of (by intro _ _ h; cases h) (.inl rfl) (WV.call fn15 rfl (toSc_ok n p k (ho.ext X249) (hr.ext X249) (he20 (by omega)).1 (he20 (by omega)).2))) (fun v H' h => .inl (h.2)) ?_
            rintro _ H272 ⟨⟨u269, v270, B271, rfl, ho274, ho275⟩, hx273⟩
            have X278 := Ext.trans X249 hx273
            have X279 := Ext.trans X250 hx273
            have X280 := Ext.trans X251 hx273
            have X281 := Ext.trans X252 hx273
            have X282 := Ext.trans X253 hx273
            have X283 := Ext.trans X254 hx273
            have X284 := Ext.trans X255 hx273
            have X285 := Ext.trans X256 hx273
            have X286 := Ext.trans X257 hx273
            have X287 := Ext.trans X258 hx273
            have X288 := Ext.trans X259 hx273
            have ho289 := ho260.ext hx273
            have ho290 := ho261.ext hx273
            have ho291 := ho262.ext hx273
            have ho292 := ho263.ext hx273
            have ho293 := ho264.ext hx273
            have hb294 := hb265.ext hx273
            have hb295 := hb266.ext hx273
            have X296 := Ext.refl H272
            have hr276 := ho274.rd
            have hr277 := rd_ofO ho275.rd
            refine Dr.eff 3 _ _ rfl (by intro d h; cases h; exact ⟨rfl, rfl⟩) rfl rfl rfl (EC.of (by intro _ _ h; cases h) (.inl rfl) (WV.call fn17 rfl (eqSc_ok n p k n p k ho289.rd (rd_ofO ho290.rd) hr276 hr277))) (fun v H' h => .inl (h.2)) ?_
            rintro _ H297 ⟨rfl, hx298⟩
            have X299 := Ext.trans X278 hx298
            have X300 := Ext.trans X279 hx298
            have X301 := Ext.trans X280 hx298
            have X302 := Ext.trans X281 hx298
            have X303 := Ext.trans X282 hx298
            have X304 := Ext.trans X283 hx298
            have X305 := Ext.trans X284 hx298
            have X306 := Ext.trans X285 hx298
            have X307 := Ext.trans X286 hx298
            have X308 := Ext.trans X287 hx298
            have X309 := Ext.trans X288 hx298
            have X310 := Ext.trans X296 hx298
            have ho311 := ho289.ext hx298
            have ho312 := ho290.ext hx298
            have ho313 := ho291.ext hx298
            have ho314 := ho292.ext hx298
            have ho315 := ho293.ext hx298
            have hb316 := hb294.ext hx298
            have hb317 := hb295.ext hx298
            refine Dr.read 4 _ 71 _ rfl rfl rfl rfl rfl (RV.of (by intro _ _ h; cases h) (.inl rfl) (fun _ xd => HV.not rfl)) ?_
            refine Dr.fin rfl ?_
            refine nrm_and ?_
            refine AW.ifn rfl (fun c318 => ?_) (fun c318 => ?_)
            · -- then
              refine AW.rs ?_
              refine AL.val rfl (.inl rfl) (HV.as rfl) ?_
              refine AL.nx ?_
              refine AW.ret ?_
              refine ret_and ?_
              refine post_one rfl rfl ?_ (.inr rfl)
              exfalso; first | omega | (simp at c318; done) | exact c318 ⟨rfl, rfl, rfl, rfl, rfl⟩ | exact absurd c318 (by simp)
            · -- else
              refine AW.skip ?_
              refine nrm_and ?_
              refine AW.seq ?_
              refine AW.rs ?_
              refine AL.val rfl (.inl rfl) (HV.mv rfl) ?_
              refine AL.val rfl (.inl rfl) (HV.mv rfl) ?_
              refine AL.w rfl (.inl rfl) (WV.call fn21 rfl (toS_ok (hrg.ext X299) (by omega))) ?_
              rintro v319 H320 ⟨hx321, ho322⟩
              have X324 := Ext.trans X299 hx321
              have X325 := Ext.trans X300 hx321
              have X326 := Ext.trans X301 hx321
              have X327 := Ext.trans X302 hx321
              have X328 := Ext.trans X303 hx321
              have X329 := Ext.trans X304 hx321
              have X330 := Ext.trans X305 hx321
              have X331 := Ext.trans X306 hx321
              have X332 := Ext.trans X307 hx321
              have X333 := Ext.trans X308 hx321
              have X334 := Ext.trans X309 hx321
              have X335 := Ext.trans X310 hx321
              have ho336 := ho311.ext hx321
              have ho337 := ho312.ext hx321
              have ho338 := ho313.ext hx321
              have ho339 := ho314.ext hx321
              have ho340 := ho315.ext hx321
              have hb341 := hb316.ext hx321
              have hb342 := hb317.ext hx321
              have X343 := Ext.refl H320
              have hr323 : RdK kI W H320 _ v319 g := ho322.rd
              refine AL.w rfl (.inl rfl) (WV.call fn23 rfl (eqS_ok ho338.rd hr323)) ?_
              rintro _ H344 ⟨rfl, hx345⟩
              have X346 := Ext.trans X324 hx345
              have X347 := Ext.trans X325 hx345
              have X348 := Ext.trans X326 hx345
              have X349 := Ext.trans X327 hx345
              have X350 := Ext.trans X328 hx345
              have X351 := Ext.trans X329 hx345
              have X352 := Ext.trans X330 hx345
              have X353 := Ext.trans X331 hx345
              have X354 := Ext.trans X332 hx345
              have X355 := Ext.trans X333 hx345
              have X356 := Ext.trans X334 hx345
              have X357 := Ext.trans X335 hx345
              have X358 := Ext.trans X343 hx345
              have ho359 := ho336.ext hx345
              have ho360 := ho337.ext hx345
              have ho361 := ho338.ext hx345
              have ho362 := ho339.ext hx345
              have ho363 := ho340.ext hx345
              have hb364 := hb341.ext hx345
              have hb365 := hb342.ext hx345
              refine AL.val rfl (.inl rfl) (HV.not rfl) ?_
              refine AL.nx ?_
              refine AW.ifn rfl (fun c366 => ?_) (fun c366 => ?_)
              · -- then
                refine AW.rs ?_
                refine AL.val rfl (.inl rfl) (HV.as rfl) ?_
                refine AL.nx ?_
                refine AW.ret ?_
                refine ret_and ?_
                refine post_one rfl rfl ?_ (.inr rfl)
                exfalso; first | omega | (simp at c366; done) | exact c366 ⟨rfl, rfl, rfl, rfl, rfl⟩ | exact absurd c366 (by simp)
              · -- else
                refine AW.skip ?_
                refine nrm_and ?_
                refine AW.seq ?_
                refine AW.rs ?_
                refine AL.val rfl (.inl rfl) (HV.mv rfl) ?_
                refine AL.val rfl (.inl rfl) (HV.mv rfl) ?_
                refine AL.w rfl (.inl rfl) (WV.call fn21 rfl (toS_ok (hrh.ext X346) (by omega))) ?_
                rintro v367 H368 ⟨hx369, ho370⟩
                have X372 := Ext.trans X346 hx369
                have X373 := Ext.trans X347 hx369
                have X374 := Ext.trans X348 hx369
                have X375 := Ext.trans X349 hx369
                have X376 := Ext.trans X350 hx369
                have X377 := Ext.trans X351 hx369
                have X378 := Ext.trans X352 hx369
                have X379 := Ext.trans X353 hx369
                have X380 := Ext.trans X354 hx369
                have X381 := Ext.trans X355 hx369
                have X382 := Ext.trans X356 hx369
                have X383 := Ext.trans X357 hx369
                have X384 := Ext.trans X358 hx369
                have ho385 := ho359.ext hx369
                have ho386 := ho360.ext hx369
                have ho387 := ho361.ext hx369
                have ho388 := ho362.ext hx369
                have ho389 := ho363.ext hx369
                have hb390 := hb364.ext hx369
                have hb391 := hb365.ext hx369
                have X392 := Ext.refl H368
                have hr371 : RdK kI W H368 _ v367 h := ho370.rd
                refine AL.w rfl (.inl rfl) (WV.call fn23 rfl (eqS_ok ho388.rd hr371)) ?_
                rintro _ H393 ⟨rfl, hx394⟩
                have X395 := Ext.trans X372 hx394
                have X396 := Ext.trans X373 hx394
                have X397 := Ext.trans X374 hx394
                have X398 := Ext.trans X375 hx394
                have X399 := Ext.trans X376 hx394
                have X400 := Ext.trans X377 hx394
                have X401 := Ext.trans X378 hx394
                have X402 := Ext.trans X379 hx394
                have X403 := Ext.trans X380 hx394
                have X404 := Ext.trans X381 hx394
                have X405 := Ext.trans X382 hx394
                have X406 := Ext.trans X383 hx394
                have X407 := Ext.trans X384 hx394
                have X408 := Ext.trans X392 hx394
                have ho409 := ho385.ext hx394
                have ho410 := ho386.ext hx394
                have ho411 := ho387.ext hx394
                have ho412 := ho388.ext hx394
                have ho413 := ho389.ext hx394
                have hb414 := hb390.ext hx394
                have hb415 := hb391.ext hx394
                refine AL.val rfl (.inl rfl) (HV.not rfl) ?_
                refine AL.nx ?_
                refine AW.ifn rfl (fun c416 => ?_) (fun c416 => ?_)
                · -- then
                  refine AW.rs ?_
                  refine AL.val rfl (.inl rfl) (HV.as rfl) ?_
                  refine AL.nx ?_
                  refine AW.ret ?_
                  refine ret_and ?_
                  refine post_one rfl rfl ?_ (.inr rfl)
                  exfalso; first | omega | (simp at c416; done) | exact c416 ⟨rfl, rfl, rfl, rfl, rfl⟩ | exact absurd c416 (by simp)
                · -- else
                  refine AW.skip ?_
                  refine nrm_and ?_
                  refine AW.rs ?_
                  refine AL.val rfl (.inl rfl) (HV.as rfl) ?_
                  refine AL.nx ?_
                  refine AW.rs ?_
                  refine AL.val rfl (.inl rfl) (HV.lda (cs := [.int .i64 n, u84, .int .i64 p, .int .i64 k, v85]) rfl va31 (at_cells hb415 rfl)) ?_
                  refine AL.val rfl (.inl rfl) (HV.mv rfl) ?_
                  refine AL.w rfl (.inl rfl) (WV.call fn18 rfl (markSc_ok n p k ho409 ho410 (fun b h1 h2 => by have a1 := h1.1.2; have a2 := h2.1.2; omega) (fun b h => by have a1 : H66.bd ≤ b := h.1.1; omega) (he20 (by omega)).1 (he20 (by omega)).2 1 (by omega))) ?_
                  rintro _ H417 ⟨⟨ko418, kl419, rfl, _, _, _, _, _, _⟩, hx420⟩
                  have hx421 := But.mono hx420 (fun b e => (e.elim (fun q => ⟨q.1.1, q.2⟩) (fun q => ⟨q.1.1, q.2⟩) : H66.bd ≤ b ∧ b < H87.bd))
                  have hof422 := offs_le (B := 1048576) (he20 (by omega)).2.2 l.length (Nat.le_refl _)
                  have hz423 := (he20 (by omega)).1
                  have hz424 := (he20 (by omega)).2.1
                  have X425 := Ext.thru X395 hx421 (fun b hb => Nat.le_trans o78 hb.1)
                  have X426 := Ext.thru X396 hx421 (fun b hb => Nat.le_trans o79 hb.1)
                  have X427 := Ext.thru X397 hx421 (fun b hb => Nat.le_trans o80 hb.1)
                  have X428 := Ext.thru X398 hx421 (fun b hb => Nat.le_trans o81 hb.1)
                  have X429 := Ext.thru X399 hx421 (fun b hb => Nat.le_trans o82 hb.1)
                  have X430 := Ext.thru X400 hx421 (fun b hb => Nat.le_trans o83 hb.1)
                  have ho439 := ho411.but hx421 (fun b hb _ e => by have h1 : H127.bd ≤ b ∧ b < H156.bd := hb; have h2 : H66.bd ≤ b ∧ b < H87.bd := e; omega) (fun b hb => by have h2 : H66.bd ≤ b ∧ b < H87.bd := hb; omega)
                  have ho440 := ho412.but hx421 (fun b hb _ e => by have h1 : H156.bd ≤ b ∧ b < H189.bd := hb; have h2 : H66.bd ≤ b ∧ b < H87.bd := e; omega) (fun b hb => by have h2 : H66.bd ≤ b ∧ b < H87.bd := hb; omega)
                  have ho441 := ho413.but hx421 (fun b hb _ e => by have h1 : H189.bd ≤ b := hb; have h2 : H66.bd ≤ b ∧ b < H87.bd := e; omega) (fun b hb => by have h2 : H66.bd ≤ b ∧ b < H87.bd := hb; omega)
                  have hb442 := hb414.but hx421 (fun e => by have q : H66.bd ≤ b5 ∧ b5 < H87.bd := e; omega)
                  have hb443 := hb415.but hx421 (fun e => by have q : H66.bd ≤ b103 ∧ b103 < H87.bd := e; omega)
                  refine AL.val rfl (.inl rfl) (HV.as rfl) ?_
                  refine AL.nx ?_
                  refine AW.rs ?_
                  refine AL.val rfl (.inl rfl) (HV.mv rfl) ?_
                  refine AL.val rfl (.inl rfl) (HV.mv rfl) ?_
                  refine AL.w rfl (.inl rfl) (WV.call fn28 rfl (markS_ok (1 + (o.length : Int) + offs l l.length) ho439 (by omega))) ?_
                  rintro _ H444 ⟨k445, rfl, hk446, hh447, hx448, ho449⟩
                  have X450 := Ext.thru X425 hx448 (fun b hb => Nat.le_trans o145 (ho439.blk b hb).1.1)
                  have X451 := Ext.thru X426 hx448 (fun b hb => Nat.le_trans o146 (ho439.blk b hb).1.1)
                  have X452 := Ext.thru X427 hx448 (fun b hb => Nat.le_trans o147 (ho439.blk b hb).1.1)
                  have X453 := Ext.thru X428 hx448 (fun b hb => Nat.le_trans o148 (ho439.blk b hb).1.1)
                  have X454 := Ext.thru X429 hx448 (fun b hb => Nat.le_trans o149 (ho439.blk b hb).1.1)
                  have X455 := Ext.thru X430 hx448 (fun b hb => Nat.le_trans o150 (ho439.blk b hb).1.1)
                  have ho456 := ho440.but hx448 (fun b hb _ e => by have h1 : H156.bd ≤ b ∧ b < H189.bd := hb; have h2 : H127.bd ≤ b ∧ b < H156.bd := (ho439.blk b e).1; omega) (fun b hb => (ho439.blk b hb).2.2)
                  have ho457 := ho441.but hx448 (fun b hb _ e => by have h1 : H189.bd ≤ b := hb; have h2 : H127.bd ≤ b ∧ b < H156.bd := (ho439.blk b e).1; omega) (fun b hb => (ho439.blk b hb).2.2)
                  have hb458 := hb442.but hx448 (fun e => by have q : H127.bd ≤ _ := (ho439.blk _ e).1.1; omega)
                  have hb459 := hb443.but hx448 (fun e => by have q : H127.bd ≤ _ := (ho439.blk _ e).1.1; omega)
                  refine AL.val rfl (.inl rfl) (HV.as rfl) ?_
                  refine AL.nx ?_
                  refine AW.rs ?_
                  refine AL.val rfl (.inl rfl) (HV.mv rfl) ?_
                  refine AL.val rfl (.inl rfl) (HV.mv rfl) ?_
                  refine AL.w rfl (.inl rfl) (WV.call fn28 rfl (markS_ok ((1 + (o.length : Int) + offs l l.length) + (g.length : Int)) ho456 (by omega))) ?_
                  rintro _ H460 ⟨k461, rfl, hk462, hh463, hx464, ho465⟩
                  have X466 := Ext.thru X450 hx464 (fun b hb => Nat.le_trans o176 (ho456.blk b hb).1.1)
                  have X467 := Ext.thru X451 hx464 (fun b hb => Nat.le_trans o177 (ho456.blk b hb).1.1)
                  have X468 := Ext.thru X452 hx464 (fun b hb => Nat.le_trans o178 (ho456.blk b hb).1.1)
                  have X469 := Ext.thru X453 hx464 (fun b hb => Nat.le_trans o179 (ho456.blk b hb).1.1)
                  have X470 := Ext.thru X454 hx464 (fun b hb => Nat.le_trans o180 (ho456.blk b hb).1.1)
                  have X471 := Ext.thru X455 hx464 (fun b hb => Nat.le_trans o181 (ho456.blk b hb).1.1)
                  have ho472 := ho457.but hx464 (fun b hb _ e => by have h1 : H189.bd ≤ b := hb; have h2 : H156.bd ≤ b ∧ b < H189.bd := (ho456.blk b e).1; omega) (fun b hb => (ho456.blk b hb).2.2)
                  have hb473 := hb458.but hx464 (fun e => by have q : H156.bd ≤ _ := (ho456.blk _ e).1.1; omega)
                  have hb474 := hb459.but hx464 (fun e => by have q : H156.bd ≤ _ := (ho456.blk _ e).1.1; omega)
                  refine AL.val rfl (.inl rfl) (HV.as rfl) ?_
                  refine AL.nx ?_
                  refine AW.seq ?_
                  refine AW.rs ?_
                  refine AL.val rfl (.inl rfl) (HV.mv rfl) ?_
                  refine AL.val rfl (.inl rfl) (HV.lti rfl rfl) ?_
                  refine AL.val rfl (.inl rfl) (HV.mv rfl) ?_
                  by_cases c475 : (((1 + (o.length : Int) + offs l l.length) + (g.length : Int)) + (h.length : Int)) < 0
                  · -- true
                    have c475_ : decide ((((1 + (o.length : Int) + offs l l.length) + (g.length : Int)) + (h.length : Int)) < 0) = true := decide_eq_true c475
                    rw [c475_]
                    refine AL.off rfl rfl (by decide) rfl ?_
                    refine AL.off rfl rfl (by decide) rfl ?_
                    refine AL.off rfl rfl (by decide) rfl ?_
                    refine AL.off rfl rfl (by decide) rfl ?_
                    refine AL.val rfl (.inl rfl) (HV.pickT rfl rfl) ?_
                    refine AL.val rfl (.inl rfl) (HV.mv rfl) ?_
                    refine AL.off rfl rfl (by decide) rfl ?_
                    refine AL.off rfl rfl (by decide) rfl ?_
                    refine AL.off rfl rfl (by decide) rfl ?_
                    refine AL.val rfl (.inl rfl) (HV.pickT rfl rfl) ?_
                    refine AL.nx ?_
                    refine AW.cond rfl (fun _ => ?_) (fun h => by cases h)
                    refine AW.rs ?_
                    refine AL.val rfl (.inl rfl) (HV.as rfl) ?_
                    refine AL.nx ?_
                    refine AW.ret ?_
                    refine ret_and ?_
                    refine post_one rfl rfl ?_ (.inr rfl)
                    exfalso; first | omega | (simp at c475; done) | exact c475 ⟨rfl, rfl, rfl, rfl, rfl⟩ | exact absurd c475 (by simp)
                  · -- false
                    have c475_ : decide ((((1 + (o.length : Int) + offs l l.length) + (g.length : Int)) + (h.length : Int)) < 0) = false := decide_eq_false c475
                    rw [c475_]
                    refine AL.val rfl (.inr ⟨_, _, _, rfl, rfl, rfl⟩) (HV.mv rfl) ?_
                    refine AL.val rfl (.inr ⟨_, _, _, rfl, rfl, rfl⟩) (HV.mv rfl) ?_
                    refine AL.w rfl (.inr ⟨_, _, _, rfl, rfl, rfl⟩) (WV.call fn23 rfl (eqS_ok ho472.rd (hr76.ext X471))) ?_
                    rintro _ H477 ⟨rfl, hx478⟩
                    have X479 := Ext.trans X466 hx478
                    have X480 := Ext.trans X467 hx478
                    have X481 := Ext.trans X468 hx478
                    have X482 := Ext.trans X469 hx478
                    have X483 := Ext.trans X470 hx478
                    have X484 := Ext.trans X471 hx478
                    have ho485 := ho472.ext hx478
                    have hb486 := hb473.ext hx478
                    have hb487 := hb474.ext hx478
                    refine AL.val rfl (.inr ⟨_, _, _, rfl, rfl, rfl⟩) (HV.not rfl) ?_
                    refine AL.val rfl (.inl rfl) (HV.pickF rfl rfl) ?_
                    refine AL.val rfl (.inl rfl) (HV.mv rfl) ?_
                    by_cases c488 : (cpL n o p k l g h s) = (cpL n o p k l g h s)
                    · -- false
                      have c488_ : (!decide ((cpL n o p k l g h s) = (cpL n o p k l g h s))) = false := by rw [decide_eq_true c488]; rfl
                      rw [c488_]
                      refine AL.val rfl (.inr ⟨_, _, _, rfl, rfl, rfl⟩) (HV.mv rfl) ?_
                      refine AL.val rfl (.inr ⟨_, _, _, rfl, rfl, rfl⟩) (HV.mv rfl) ?_
                      refine AL.val rfl (.inr ⟨_, _, _, rfl, rfl, rfl⟩) (HV.nei rfl rfl) ?_
                      refine AL.val rfl (.inl rfl) (HV.pickF rfl rfl) ?_
                      refine AL.nx ?_
                      refine AW.ifd rfl (fun c489 => ?_) (fun c489 => ?_)
                      · -- then
                        refine AW.rs ?_
                        refine AL.val rfl (.inl rfl) (HV.as rfl) ?_
                        refine AL.nx ?_
                        refine AW.ret ?_
                        refine ret_and ?_
                        refine post_one rfl rfl ?_ (.inr rfl)
                        exfalso; first | omega | (simp at c489; done) | exact c489 ⟨rfl, rfl, rfl, rfl, rfl⟩ | exact absurd c489 (by simp)
                      · -- else
                        refine AW.skip ?_
                        refine nrm_and ?_
                        refine AW.rs ?_
                        refine AL.val rfl (.inl rfl) (HV.as rfl) ?_
                        refine AL.nx ?_
                        refine AW.rs ?_
                        refine AL.val rfl (.inl rfl) (HV.mv rfl) ?_
                        refine AL.val rfl (.inl rfl) (HV.mv rfl) ?_
                        refine AL.w rfl (.inl rfl) (WV.call fn28 rfl (markT_ok 1 ho485 (by omega))) ?_
                        rintro _ H490 ⟨k491, rfl, hk492, hh493, hx494, ho495⟩
                        have X496 := Ext.thru X479 hx494 (fun b hb => Nat.le_trans o211 (ho485.blk b hb).1)
                        have X497 := Ext.thru X480 hx494 (fun b hb => Nat.le_trans o212 (ho485.blk b hb).1)
                        have X498 := Ext.thru X481 hx494 (fun b hb => Nat.le_trans o213 (ho485.blk b hb).1)
                        have X499 := Ext.thru X482 hx494 (fun b hb => Nat.le_trans o214 (ho485.blk b hb).1)
                        have X500 := Ext.thru X483 hx494 (fun b hb => Nat.le_trans o215 (ho485.blk b hb).1)
                        have X501 := Ext.thru X484 hx494 (fun b hb => Nat.le_trans o216 (ho485.blk b hb).1)
                        have hb502 := hb486.but hx494 (fun e => by have q : H189.bd ≤ _ := (ho485.blk _ e).1; omega)
                        have hb503 := hb487.but hx494 (fun e => by have q : H189.bd ≤ _ := (ho485.blk _ e).1; omega)
                        refine AL.val rfl (.inl rfl) (HV.as rfl) ?_
                        refine AL.nx ?_
                        refine AW.rs ?_
                        refine AL.val rfl (.inl rfl) (HV.as rfl) ?_
                        refine AL.nx ?_
                        refine AW.rs ?_
                        refine AL.val rfl (.inl rfl) (HV.mv rfl) ?_
                        refine AL.val rfl (.inl rfl) (HV.mv rfl) ?_
                        refine AL.w rfl (.inl rfl) (WV.call fn29 rfl (heldS_ok 1 ho495.rd (by omega) hh493)) ?_
                        rintro _ H504 ⟨rfl, hx505⟩
                        have X506 := Ext.trans X496 hx505
                        have X507 := Ext.trans X497 hx505
                        have X508 := Ext.trans X498 hx505
                        have X509 := Ext.trans X499 hx505
                        have X510 := Ext.trans X500 hx505
                        have X511 := Ext.trans X501 hx505
                        have ho512 := ho495.ext hx505
                        have hb513 := hb502.ext hx505
                        have hb514 := hb503.ext hx505
                        refine AL.val rfl (.inl rfl) (HV.as rfl) ?_
                        refine AL.nx ?_
                        refine AW.seq ?_
                        refine AW.rs ?_
                        refine AL.val rfl (.inl rfl) (HV.mv rfl) ?_
                        refine AL.val rfl (.inl rfl) (HV.lti rfl rfl) ?_
                        refine AL.nx ?_
                        refine AW.ifd rfl (fun c515 => ?_) (fun c515 => ?_)
                        · -- then
                          refine AW.rs ?_
                          refine AL.val rfl (.inl rfl) (HV.as rfl) ?_
                          refine AL.nx ?_
                          refine AW.ret ?_
                          refine ret_and ?_
                          refine post_one rfl rfl ?_ (.inr rfl)
                          exfalso; first | omega | (simp at c515; done) | exact c515 ⟨rfl, rfl, rfl, rfl, rfl⟩ | exact absurd c515 (by simp)
                        · -- else
                          refine AW.skip ?_
                          refine nrm_and ?_
                          refine AW.seq ?_
                          refine AW.rs ?_
                          refine AL.val rfl (.inl rfl) (HV.mv rfl) ?_
                          refine AL.val rfl (.inl rfl) (HV.mv rfl) ?_
                          refine AL.val rfl (.inl rfl) (HV.nei rfl rfl) ?_
                          refine AL.nx ?_
                          refine AW.ifd rfl (fun c516 => ?_) (fun c516 => ?_)
                          · -- then
                            refine AW.rs ?_
                            refine AL.val rfl (.inl rfl) (HV.as rfl) ?_
                            refine AL.nx ?_
                            refine AW.ret ?_
                            refine ret_and ?_
                            refine post_one rfl rfl ?_ (.inr rfl)
                            exfalso; first | omega | (simp at c516; done) | exact c516 ⟨rfl, rfl, rfl, rfl, rfl⟩ | exact absurd c516 (by simp)
                          · -- else
                            refine AW.skip ?_
                            refine nrm_and ?_
                            refine AW.rs ?_
                            refine AL.val rfl (.inl rfl) (HV.lda (cs := [.int .i64 n, vo, .int .i64 p, .int .i64 k, v]) rfl va27 (at_cells hb513 rfl)) ?_
                            refine AL.w rfl (.inl rfl) (WV.call fn15 rfl (toSc_ok n p k (ho.ext X506) (hr.ext X506) (he20 (by omega)).1 (he20 (by omega)).2)) ?_
                            rintro _ H520 ⟨⟨u517, v518, B519, rfl, ho522, ho523⟩, hx521⟩
                            have X526 := Ext.trans X506 hx521
                            have X527 := Ext.trans X507 hx521
                            have X528 := Ext.trans X508 hx521
                            have X529 := Ext.trans X509 hx521
                            have X530 := Ext.trans X510 hx521
                            have X531 := Ext.trans X511 hx521
                            have ho532 := ho512.ext hx521
                            have hb533 := hb513.ext hx521
                            have hb534 := hb514.ext hx521
                            have X535 := Ext.refl H520
                            have hr524 := ho522.rd
                            have hr525 := rd_ofO ho523.rd
                            refine AL.val rfl (.inl rfl) (HV.mv rfl) ?_
                            refine AL.w rfl (.inl rfl) (WV.call fn21 rfl (toS_ok (hrg.ext X526) (by omega))) ?_
                            rintro v536 H537 ⟨hx538, ho539⟩
                            have X541 := Ext.trans X526 hx538
                            have X542 := Ext.trans X527 hx538
                            have X543 := Ext.trans X528 hx538
                            have X544 := Ext.trans X529 hx538
                            have X545 := Ext.trans X530 hx538
                            have X546 := Ext.trans X531 hx538
                            have X547 := Ext.trans X535 hx538
                            have ho548 := ho532.ext hx538
                            have hb549 := hb533.ext hx538
                            have hb550 := hb534.ext hx538
                            have X551 := Ext.refl H537
                            have hr540 : RdK kI W H537 _ v536 g := ho539.rd
                            refine AL.val rfl (.inl rfl) (HV.mv rfl) ?_
                            refine AL.w rfl (.inl rfl) (WV.call fn21 rfl (toS_ok (hrh.ext X541) (by omega))) ?_
                            rintro v552 H553 ⟨hx554, ho555⟩
                            have X557 := Ext.trans X541 hx554
                            have X558 := Ext.trans X542 hx554
                            have X559 := Ext.trans X543 hx554
                            have X560 := Ext.trans X544 hx554
                            have X561 := Ext.trans X545 hx554
                            have X562 := Ext.trans X546 hx554
                            have X563 := Ext.trans X547 hx554
                            have X564 := Ext.trans X551 hx554
                            have ho565 := ho548.ext hx554
                            have hb566 := hb549.ext hx554
                            have hb567 := hb550.ext hx554
                            have X568 := Ext.refl H553
                            have hr556 : RdK kI W H553 _ v552 h := ho555.rd
                            refine AL.val rfl (.inl rfl) (HV.mv rfl) ?_
                            have y569 := hb566.lt
                            have y570 := hb567.lt
                            have o571 := X557.bd
                            have o572 := X558.bd
                            have o573 := X559.bd
                            have o574 := X560.bd
                            have o575 := X561.bd
                            have o576 := X562.bd
                            have o577 := X563.bd
                            have o578 := X564.bd
                            have o579 := X568.bd
                            have a580 := ho565.ltb
                            refine AL.w rfl (.inl rfl) (WV.call fn31 rfl (implCP_ok n p k (hr524.ext X563) (hr525.ext X563) (hr540.ext X564) hr556 s)) ?_
                            rintro _ H582 ⟨⟨v581, rfl, ho584⟩, hx583⟩
                            have X585 := Ext.trans X557 hx583
                            have X586 := Ext.trans X558 hx583
                            have X587 := Ext.trans X559 hx583
                            have X588 := Ext.trans X560 hx583
                            have X589 := Ext.trans X561 hx583
                            have X590 := Ext.trans X562 hx583
                            have X591 := Ext.trans X563 hx583
                            have X592 := Ext.trans X564 hx583
                            have X593 := Ext.trans X568 hx583
                            have ho594 := ho565.ext hx583
                            have hb595 := hb566.ext hx583
                            have hb596 := hb567.ext hx583
                            have X597 := Ext.refl H582
                            have hr598 := ho584.rd
                            refine AL.val rfl (.inl rfl) (HV.mv rfl) ?_
                            refine AL.val rfl (.inl rfl) (HV.ex rfl rfl) ?_
                            refine AL.val rfl (.inl rfl) (HV.ex rfl rfl) ?_
                            refine AL.val rfl (.inl rfl) (HV.as rfl) ?_
                            refine AL.val rfl (.inl rfl) (HV.as rfl) ?_
                            refine AL.nx ?_
                            refine AW.seq ?_
                            refine AW.rs ?_
                            refine AL.val rfl (.inl rfl) (HV.mv rfl) ?_
                            refine AL.val rfl (.inl rfl) (HV.mv rfl) ?_
                            refine AL.w rfl (.inl rfl) (WV.call fn23 rfl (eqS_ok hr598 (hr76.ext X590))) ?_
                            rintro _ H599 ⟨rfl, hx600⟩
                            have X601 := Ext.trans X585 hx600
                            have X602 := Ext.trans X586 hx600
                            have X603 := Ext.trans X587 hx600
                            have X604 := Ext.trans X588 hx600
                            have X605 := Ext.trans X589 hx600
                            have X606 := Ext.trans X590 hx600
                            have X607 := Ext.trans X591 hx600
                            have X608 := Ext.trans X592 hx600
                            have X609 := Ext.trans X593 hx600
                            have X610 := Ext.trans X597 hx600
                            have ho611 := ho594.ext hx600
                            have hb612 := hb595.ext hx600
                            have hb613 := hb596.ext hx600
                            refine AL.val rfl (.inl rfl) (HV.not rfl) ?_
                            refine AL.val rfl (.inl rfl) (HV.mv rfl) ?_
                            by_cases c614 : (cpL n o p k l g h s) = (cpL n o p k l g h s)
                            · -- false
                              have c614_ : (!decide ((cpL n o p k l g h s) = (cpL n o p k l g h s))) = false := by rw [decide_eq_true c614]; rfl
                              rw [c614_]
                              refine AL.val rfl (.inr ⟨_, _, _, rfl, rfl, rfl⟩) (HV.mv rfl) ?_
                              refine AL.val rfl (.inr ⟨_, _, _, rfl, rfl, rfl⟩) (HV.mv rfl) ?_
                              refine AL.val rfl (.inr ⟨_, _, _, rfl, rfl, rfl⟩) (HV.nei rfl rfl) ?_
                              refine AL.val rfl (.inl rfl) (HV.pickF rfl rfl) ?_
                              refine AL.nx ?_
                              refine AW.ifd rfl (fun c615 => ?_) (fun c615 => ?_)
                              · -- then
                                refine AW.rs ?_
                                refine AL.val rfl (.inl rfl) (HV.as rfl) ?_
                                refine AL.nx ?_
                                refine AW.ret ?_
                                refine ret_and ?_
                                refine post_one rfl rfl ?_ (.inr rfl)
                                exfalso; first | omega | (simp at c615; done) | exact c615 ⟨rfl, rfl, rfl, rfl, rfl⟩ | exact absurd c615 (by simp)
                              · -- else
                                refine AW.skip ?_
                                refine nrm_and ?_
                                refine AW.rs ?_
                                refine AL.val rfl (.inl rfl) (HV.as rfl) ?_
                                refine AL.nx ?_
                                refine AW.rs ?_
                                refine AL.val rfl (.inl rfl) (HV.mv rfl) ?_
                                refine AL.val rfl (.inl rfl) (HV.mv rfl) ?_
                                refine AL.w rfl (.inl rfl) (WV.call fn29 rfl (heldS_ok 1 ho611.rd (by omega) hh493)) ?_
                                rintro _ H616 ⟨rfl, hx617⟩
                                have X618 := Ext.trans X601 hx617
                                have X619 := Ext.trans X602 hx617
                                have X620 := Ext.trans X603 hx617
                                have X621 := Ext.trans X604 hx617
                                have X622 := Ext.trans X605 hx617
                                have X623 := Ext.trans X606 hx617
                                have X624 := Ext.trans X607 hx617
                                have X625 := Ext.trans X608 hx617
                                have X626 := Ext.trans X609 hx617
                                have X627 := Ext.trans X610 hx617
                                have ho628 := ho611.ext hx617
                                have hb629 := hb612.ext hx617
                                have hb630 := hb613.ext hx617
                                refine AL.val rfl (.inl rfl) (HV.as rfl) ?_
                                refine AL.nx ?_
                                refine AW.seq ?_
                                refine AW.rs ?_
                                refine AL.val rfl (.inl rfl) (HV.mv rfl) ?_
                                refine AL.val rfl (.inl rfl) (HV.lti rfl rfl) ?_
                                refine AL.nx ?_
                                refine AW.ifd rfl (fun c631 => ?_) (fun c631 => ?_)
                                · -- then
                                  refine AW.rs ?_
                                  refine AL.val rfl (.inl rfl) (HV.as rfl) ?_
                                  refine AL.nx ?_
                                  refine AW.ret ?_
                                  refine ret_and ?_
                                  refine post_one rfl rfl ?_ (.inr rfl)
                                  exfalso; first | omega | (simp at c631; done) | exact c631 ⟨rfl, rfl, rfl, rfl, rfl⟩ | exact absurd c631 (by simp)
                                · -- else
                                  refine AW.skip ?_
                                  refine nrm_and ?_
                                  refine AW.seq ?_
                                  refine AW.rs ?_
                                  refine AL.val rfl (.inl rfl) (HV.mv rfl) ?_
                                  refine AL.val rfl (.inl rfl) (HV.mv rfl) ?_
                                  refine AL.val rfl (.inl rfl) (HV.nei rfl rfl) ?_
                                  refine AL.nx ?_
                                  refine AW.ifd rfl (fun c632 => ?_) (fun c632 => ?_)
                                  · -- then
                                    refine AW.rs ?_
                                    refine AL.val rfl (.inl rfl) (HV.as rfl) ?_
                                    refine AL.nx ?_
                                    refine AW.ret ?_
                                    refine ret_and ?_
                                    refine post_one rfl rfl ?_ (.inr rfl)
                                    exfalso; first | omega | (simp at c632; done) | exact c632 ⟨rfl, rfl, rfl, rfl, rfl⟩ | exact absurd c632 (by simp)
                                  · -- else
                                    refine AW.skip ?_
                                    refine nrm_and ?_
                                    refine AW.rs ?_
                                    refine AL.val rfl (.inl rfl) (HV.as rfl) ?_
                                    refine AL.nx ?_
                                    refine AW.ret ?_
                                    refine post_one rfl rfl ?_ (.inr rfl)
                                    exact ⟨rfl, X618⟩
                            · -- true
                              have c614_ : (!decide ((cpL n o p k l g h s) = (cpL n o p k l g h s))) = true := by rw [decide_eq_false c614]; rfl
                              rw [c614_]
                              refine AL.off rfl rfl (by decide) rfl ?_
                              refine AL.off rfl rfl (by decide) rfl ?_
                              refine AL.off rfl rfl (by decide) rfl ?_
                              refine AL.val rfl (.inl rfl) (HV.pickT rfl rfl) ?_
                              refine AL.nx ?_
                              refine AW.cond rfl (fun _ => ?_) (fun h => by cases h)
                              refine AW.rs ?_
                              refine AL.val rfl (.inl rfl) (HV.as rfl) ?_
                              refine AL.nx ?_
                              refine AW.ret ?_
                              refine ret_and ?_
                              refine post_one rfl rfl ?_ (.inr rfl)
                              exfalso; first | omega | (simp at c614; done) | exact c614 ⟨rfl, rfl, rfl, rfl, rfl⟩ | exact absurd c614 (by simp)
                    · -- true
                      have c488_ : (!decide ((cpL n o p k l g h s) = (cpL n o p k l g h s))) = true := by rw [decide_eq_false c488]; rfl
                      rw [c488_]
                      refine AL.off rfl rfl (by decide) rfl ?_
                      refine AL.off rfl rfl (by decide) rfl ?_
                      refine AL.off rfl rfl (by decide) rfl ?_
                      refine AL.val rfl (.inl rfl) (HV.pickT rfl rfl) ?_
                      refine AL.nx ?_
                      refine AW.cond rfl (fun _ => ?_) (fun h => by cases h)
                      refine AW.rs ?_
                      refine AL.val rfl (.inl rfl) (HV.as rfl) ?_
                      refine AL.nx ?_
                      refine AW.ret ?_
                      refine ret_and ?_
                      refine post_one rfl rfl ?_ (.inr rfl)
                      exfalso; first | omega | (simp at c488; done) | exact c488 ⟨rfl, rfl, rfl, rfl, rfl⟩ | exact absurd c488 (by simp)
        · -- true
          have c267_ : (!decide ((cpL n o p k l g h s) = (cpL n o p k l g h s))) = true := by rw [decide_eq_false c267]; rfl
          rw [c267_]
          refine AL.off rfl rfl (by decide) rfl ?_
          refine AL.off rfl rfl (by decide) rfl ?_
          refine AL.off rfl rfl (by decide) rfl ?_
          refine AL.val rfl (.inl rfl) (HV.pickT rfl rfl) ?_
          refine AL.nx ?_
          refine AW.cond rfl (fun _ => ?_) (fun h => by cases h)
          refine AW.rs ?_
          refine AL.val rfl (.inl rfl) (HV.as rfl) ?_
          refine AL.nx ?_
          refine AW.ret ?_
          refine ret_and ?_
          refine post_one rfl rfl ?_ (.inr rfl)
          exfalso; first | omega | (simp at c267; done) | exact c267 ⟨rfl, rfl, rfl, rfl, rfl⟩ | exact absurd c267 (by simp)
end Go.Proofs.Yticobjbjejpomaa.VC
