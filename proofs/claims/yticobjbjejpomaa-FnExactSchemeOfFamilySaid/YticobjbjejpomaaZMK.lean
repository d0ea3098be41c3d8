/- Makers: a box with a number of columns, a row of numbers and a row of rows, all of which grow. -/
import Derived.Test.YticobjbjejpomaaZM
import Derived.Test.YticobjbjejpomaaZS3
import Derived.Test.YticobjbjejpomaaZS
set_option linter.unusedVariables false
set_option linter.unusedSimpArgs false
namespace Go.Proofs.Yticobjbjejpomaa.VC
open Go Go.RowKit
/-- Columns, owners, rows. -/
abbrev MS := Nat × List Int × List (List Int)
/-- A maker at block b. Labels: 1 the box, 2 the owners, 3 the row of rows, 5 + j a row; 0: not the maker's. -/
structure Mkr (W : World) (H : Hp) (T e b : Nat) (lab : Nat → Nat) (p : Int) (s : MS) (vo vr : Value) (vs : List Value) : Prop where
  at_ : At W H b ⟨T, [.int .i64 p, .int .i64 (s.1 : Int), vo, vr], 4⟩
  lb : lab b = 1
  own : OwnK kI 2 W H (fun y => lab y = 2) vo s.2.1
  raw : OwnK kV e W H (fun y => lab y = 3) vr vs
  len : vs.length = s.2.2.length
  rows : ∀ (j : Nat) (u : Value) (x : List Int), vs[j]? = some u → s.2.2[j]? = some x → OwnK kI 2 W H (fun y => lab y = 5 + j) u x
def Mk (W : World) (H : Hp) (T e b : Nat) (av : Nat → Prop) (p : Int) (s : MS) : Prop := ∃ lab vo vr vs, Mkr W H T e b lab p s vo vr vs ∧ ∀ y, av y → lab y = 0
section
variable {W : World} {H H' : Hp} {T e b : Nat} {av av' : Nat → Prop} {p : Int} {s : MS}
theorem Mk.mono (h : Mk W H T e b av p s) (k : ∀ y, av' y → av y) : Mk W H T e b av' p s := by
  obtain ⟨lab, vo, vr, vs, h1, h2⟩ := h
  exact ⟨lab, vo, vr, vs, h1, fun y hy => h2 y (k y hy)⟩
theorem OwnK.relab {α : Type} {K : Kd α} {e : Nat} {lab lab' : Nat → Nat} {n : Nat} {v : Value} {l : List α} (h : OwnK K e W H (fun y => lab y = n) v l) (k : ∀ y, y < H.bd → lab' y = lab y) : OwnK K e W H (fun y => lab' y = n) v l := h.okk (fun y hy hlt => (k y hlt).trans hy)
/-- What is younger is not the maker's. -/
theorem Mk.young (h : Mk W H T e b av p s) : Mk W H T e b (fun y => av y ∨ H.bd ≤ y) p s := by
  obtain ⟨lab, vo, vr, vs, h1, h2⟩ := h
  have hk : ∀ y, y < H.bd → (fun y => if H.bd ≤ y then 0 else lab y) y = lab y := fun y hy => if_neg (by omega)
  refine ⟨fun y => if H.bd ≤ y then 0 else lab y, vo, vr, vs, ⟨h1.at_, (hk b h1.at_.lt).trans h1.lb, h1.own.relab hk, h1.raw.relab hk, h1.len, fun j u x q1 q2 => (h1.rows j u x q1 q2).relab hk⟩, fun y hy => ?_⟩
  show (if H.bd ≤ y then 0 else lab y) = 0
  rcases hy with hy | hy
  · split
    · rfl
    · exact h2 y hy
  · exact if_pos hy
theorem Mk.but {out : Nat → Prop} (h : Mk W H T e b av p s) (k : But out H H') (ho : ∀ y, out y → av y) (hW : ∀ y, out y → W.heap.size ≤ y) : Mk W H' T e b av p s := by
  obtain ⟨lab, vo, vr, vs, h1, h2⟩ := h
  have hn : ∀ n : Nat, ∀ y, lab y = n + 1 → y < H.bd → ¬ out y := fun n y hy _ hoy => by have := h2 y (ho y hoy); omega
  exact ⟨lab, vo, vr, vs, ⟨h1.at_.but k (fun q => by have := h2 b (ho b q); have := h1.lb; omega), h1.lb, h1.own.but k (fun y hy => hn 1 y hy) hW, h1.raw.but k (fun y hy => hn 2 y hy) hW, h1.len, fun j u x q1 q2 => (h1.rows j u x q1 q2).but k (fun y hy => hn (4 + j) y (by rw [hy]; omega)) hW⟩, h2⟩
theorem Mk.ext (h : Mk W H T e b av p s) (k : Ext H H') : Mk W H' T e b av p s := h.but k (fun _ f => f.elim) (fun _ f => f.elim)
/-- What lies in the box. -/
theorem Mk.box (h : Mk W H T e b av p s) : ∃ vo vr, At W H b ⟨T, [.int .i64 p, .int .i64 (s.1 : Int), vo, vr], 4⟩ ∧ (∃ n, IsSl vo n) ∧ (∃ n, IsSl vr n) ∧ ¬ av b ∧ (∀ c, At W H b ⟨T, [.int .i64 p, .int .i64 (c : Nat), vo, vr], 4⟩ → Mk W H T e b av p (c, s.2)) ∧
    ∀ {H2 : Hp} {c : Nat}, But (fun y => y = b) H H2 → At W H2 b ⟨T, [.int .i64 p, .int .i64 (c : Int), vo, vr], 4⟩ → Mk W H2 T e b av p (c, s.2) := by
  obtain ⟨lab, vo, vr, vs, h1, h2⟩ := h
  refine ⟨vo, vr, h1.at_, ⟨_, h1.own.isSl⟩, ⟨_, h1.raw.isSl⟩, fun q => by have := h2 b q; have := h1.lb; omega, fun c hc => ⟨lab, vo, vr, vs, ⟨hc, h1.lb, h1.own, h1.raw, h1.len, h1.rows⟩, h2⟩, fun {H2 c} k hc => ?_⟩
  have hn : ∀ n : Nat, ∀ y, lab y = n + 2 → y < H.bd → ¬ (y = b) := fun n y hy _ q => by have := h1.lb; rw [q] at hy; omega
  have hW : ∀ y, y = b → W.heap.size ≤ y := fun y q => by rw [q]; exact h1.at_.w
  exact ⟨lab, vo, vr, vs, ⟨hc, h1.lb, h1.own.but k (fun y hy => hn 0 y hy) hW, h1.raw.but k (fun y hy => hn 1 y hy) hW, h1.len, fun j u x q1 q2 => (h1.rows j u x q1 q2).but k (fun y hy => hn (3 + j) y (by rw [hy]; omega)) hW⟩, h2⟩
/-- A leaf: one owner and one row come in. -/
theorem Mkr.leaf {lab : Nat → Nat} {vo vr vo' vr' vl : Value} {vs : List Value} {x : List Int} {a : Int} (h : Mkr W H T e b lab p s vo vr vs) (hav : ∀ y, (av y ∨ some y = vl.ownBlock) → lab y = 0) (hav2 : ∀ y, av y → y < H.bd) (hl : OwnK kI 2 W H (fun y => some y = vl.ownBlock) vl x) (hla : ∀ y, av y → some y ≠ vl.ownBlock)
    (ch : But (fun y => y = b ∨ some y = vo.ownBlock ∨ some y = vr.ownBlock) H H') (ha : At W H' b ⟨T, [.int .i64 p, .int .i64 (s.1 : Int), vo', vr'], 4⟩) (ho : OwnK kI 2 W H' (fun y => some y = vo'.ownBlock) vo' (s.2.1 ++ [a])) (hr : OwnK kV e W H' (fun y => some y = vr'.ownBlock) vr' (vs ++ [vl]))
    (h1 : ∀ y, some y = vo'.ownBlock → some y = vo.ownBlock ∨ H.bd ≤ y) (h2 : ∀ y, some y = vr'.ownBlock → some y = vr.ownBlock ∨ H.bd ≤ y) (hd : ∀ y, some y = vo'.ownBlock → some y = vr'.ownBlock → False) :
    Mk W H' T e b av p (s.1, s.2.1 ++ [a], s.2.2 ++ [x]) ∧ But (fun y => ¬ av y) H H' := by
  have kb := h.at_.lt
  have ko : ∀ y, some y = vo.ownBlock → lab y = 2 ∧ y < H.bd := fun y q => ⟨(h.own.blk y q).1, (h.own.blk y q).2.1⟩
  have kr : ∀ y, some y = vr.ownBlock → lab y = 3 ∧ y < H.bd := fun y q => ⟨(h.raw.blk y q).1, (h.raw.blk y q).2.1⟩
  have kl : ∀ y, some y = vl.ownBlock → lab y = 0 ∧ y < H.bd := fun y q => ⟨hav y (.inr q), (hl.blk y q).2.1⟩
  have hW : ∀ y, (y = b ∨ some y = vo.ownBlock ∨ some y = vr.ownBlock) → W.heap.size ≤ y := fun y q => by
    rcases q with q | q | q
    · rw [q]; exact h.at_.w
    · exact (h.own.blk y q).2.2
    · exact (h.raw.blk y q).2.2
  have hch : But (fun y => ¬ av y) H H' := ch.mono (fun y q hy => by
    have h0 := hav y (.inl hy)
    rcases q with q | q | q
    · rw [q, h.lb] at h0; omega
    · have := (ko y q).1; omega
    · have := (kr y q).1; omega)
  refine ⟨?_, hch⟩
  classical
  let lab' : Nat → Nat := fun y => if some y = vo'.ownBlock then 2 else if some y = vr'.ownBlock then 3 else if some y = vl.ownBlock then 5 + vs.length else if H.bd ≤ y then 0 else lab y
  have lo : ∀ y, some y = vo'.ownBlock → lab' y = 2 := fun y q => if_pos q
  have lr : ∀ y, some y = vr'.ownBlock → lab' y = 3 := fun y q => by
    show (if _ then _ else _) = 3
    rw [if_neg (fun q2 => hd y q2 q), if_pos q]
  have lold : ∀ y, y < H.bd → some y ≠ vo.ownBlock → some y ≠ vr.ownBlock → some y ≠ vl.ownBlock → lab' y = lab y := fun y h0 h3 h4 h5 => by
    show (if _ then _ else _) = _
    rw [if_neg (fun q => by rcases h1 y q with g | g; exact h3 g; omega), if_neg (fun q => by rcases h2 y q with g | g; exact h4 g; omega), if_neg h5, if_neg (by omega)]
  have ll : ∀ y, some y = vl.ownBlock → lab' y = 5 + vs.length := fun y q => by
    have h0 := kl y q
    show (if _ then _ else _) = _
    rw [if_neg (fun q2 => by rcases h1 y q2 with g | g; (have := (ko y g).1; omega); omega), if_neg (fun q2 => by rcases h2 y q2 with g | g; (have := (kr y g).1; omega); omega), if_pos q]
  refine ⟨lab', vo', vr', vs ++ [vl], ⟨ha, ?_, ho.okk (fun y q _ => lo y q), hr.okk (fun y q _ => lr y q), by rw [List.length_append, List.length_append, h.len]; rfl, fun j u z q1 q2 => ?_⟩, fun y hy => ?_⟩
  · rw [lold b kb (fun q => by have := (ko b q).1; have := h.lb; omega) (fun q => by have := (kr b q).1; have := h.lb; omega) (fun q => by have := (kl b q).1; have := h.lb; omega)]; exact h.lb
  · rw [List.getElem?_append] at q1 q2
    rw [← h.len] at q2
    by_cases hj : j < vs.length
    · rw [if_pos hj] at q1 q2
      have g1 := h.rows j u z q1 q2
      have g2 := g1.okk (ok' := fun y => lab y = 5 + j ∧ y < H.bd) (fun y hy hlt => ⟨hy, hlt⟩)
      refine (g2.but ch (fun y hy _ q => ?_) hW).okk (fun y hy _ => ?_)
      · rcases q with q | q | q
        · rw [q, h.lb] at hy; omega
        · have := (ko y q).1; omega
        · have := (kr y q).1; omega
      · rw [lold y hy.2 (fun q => by have := (ko y q).1; omega) (fun q => by have := (kr y q).1; omega) (fun q => by have := (kl y q).1; omega)]; exact hy.1
    · rw [if_neg hj] at q1 q2
      have hj0 : j - vs.length = 0 := by
        have := (List.getElem?_eq_some_iff.1 q1).1
        simp at this; omega
      rw [hj0] at q1 q2
      cases q1; cases q2
      have g2 := hl.but ch (fun y hy _ q => by
        have h0 := (kl y hy).1
        rcases q with q | q | q
        · rw [q, h.lb] at h0; omega
        · have := (ko y q).1; omega
        · have := (kr y q).1; omega) hW
      exact g2.okk (fun y hy _ => (ll y hy).trans (by omega))
  · have h0 := hav y (.inl hy)
    rw [lold y (hav2 y hy) (fun q => by have := (ko y q).1; omega) (fun q => by have := (kr y q).1; omega) (hla y hy)]; exact h0
/-- A maker that has nothing yet. -/
theorem Mk.new {c : Nat} (ha : At W H b ⟨T, [.int .i64 p, .int .i64 (c : Int), .slice none 0 0, .slice none 0 0], 4⟩) (h : ¬ av b) : Mk W H T e b av p (c, [], []) :=
  ⟨fun y => if y = b then 1 else 0, _, _, [], ⟨ha, if_pos rfl, OwnK.nil _, OwnK.nil _, rfl, fun j u x q => by cases q⟩, fun y hy => show (if y = b then 1 else 0) = 0 from if_neg (fun q => by rw [q] at hy; exact h hy)⟩
end
theorem IsSl.uniq {v : Value} {n m : Nat} (h : IsSl v n) (k : IsSl v m) : n = m := by
  obtain ⟨A, c, rfl⟩ := h
  obtain ⟨A2, c2, e⟩ := k
  cases e; rfl
theorem At.two {W : World} {H : Hp} {b T m : Nat} {a1 a2 vo vr vo2 vr2 : Value} (q : At W H b ⟨T, [a1, a2, vo, vr], m⟩) (q2 : At W H b ⟨T, [a1, a2, vo2, vr2], m⟩) : vo = vo2 ∧ vr = vr2 := by
  have e := Option.some.inj (q.m.symm.trans q2.m)
  simp only [Blk.mk.injEq, List.cons.injEq, and_true, true_and] at e
  exact e
/-- Filled up with zeros. -/
def padL (n : Nat) (a : List Int) : List Int := a ++ List.replicate (n - a.length) 0
/-- Rows of a maker go, filled up, into a scheme's box. Labels as a maker's; 4: the new row of rows; nothing of it lies below B. -/
structure Mvr (W : World) (H : Hp) (T e T9 b b9 B : Nat) (lab : Nat → Nat) (p n : Int) (s : MS) (vo vr : Value) (vs : List Value) (vout : Value) (ws : List Value) (i : Nat) : Prop where
  at_ : At W H b ⟨T, [.int .i64 p, .int .i64 (s.1 : Int), vo, vr], 4⟩
  at9 : At W H b9 ⟨T9, [.int .i64 n, vo, .int .i64 p, .int .i64 (s.1 : Int), vout], 5⟩
  lb : lab b = 1
  l9 : lab b9 = 6
  bB : B ≤ b
  b9B : B ≤ b9
  own : OwnK kI 2 W H (fun y => B ≤ y ∧ lab y = 2) vo s.2.1
  raw : OwnK kV e W H (fun y => B ≤ y ∧ lab y = 3) vr vs
  out : OwnK kV e W H (fun y => B ≤ y ∧ lab y = 4) vout ws
  len : vs.length = s.2.2.length
  lw : ws.length = i
  rest : ∀ (j : Nat) (u : Value) (x : List Int), i ≤ j → vs[j]? = some u → s.2.2[j]? = some x → OwnK kI 2 W H (fun y => B ≤ y ∧ lab y = 7 + j) u x
  done : ∀ (j : Nat) (u : Value) (x : List Int), ws[j]? = some u → s.2.2[j]? = some x → OwnK kI 2 W H (fun y => B ≤ y ∧ lab y = 7 + j) u (padL s.1 x)
section
variable {W : World} {H H' : Hp} {T e T9 b b9 B : Nat} {lab : Nat → Nat} {p n : Int} {s : MS} {vo vr vout : Value} {vs ws : List Value} {i : Nat}
/-- The scheme's box is there. -/
theorem Mvr.start {av : Nat → Prop} (h : Mk W H T e b av p s) (hav : ∀ y, y < B → av y) (k : Ext H H') (h9 : H.bd ≤ b9) (hB : B ≤ H.bd) (ha : ∀ vo vr, At W H b ⟨T, [.int .i64 p, .int .i64 (s.1 : Int), vo, vr], 4⟩ → At W H' b9 ⟨T9, [.int .i64 n, vo, .int .i64 p, .int .i64 (s.1 : Int), .slice none 0 0], 5⟩) :
    ∃ lab vo vr vs, Mvr W H' T e T9 b b9 B lab p n s vo vr vs (.slice none 0 0) [] 0 := by
  obtain ⟨lab, vo, vr, vs, h1, h2⟩ := h
  let lab' : Nat → Nat := fun y => if H.bd ≤ y then 6 else if lab y ≤ 4 then lab y else lab y + 2
  have hl : ∀ y, y < H.bd → lab' y = if lab y ≤ 4 then lab y else lab y + 2 := fun y q => if_neg (by omega)
  have hB2 : ∀ y, 0 < lab y → B ≤ y := fun y q => Nat.le_of_not_lt (fun q2 => by have := h2 y (hav y q2); omega)
  refine ⟨lab', vo, vr, vs, ⟨h1.at_.ext k, ha vo vr h1.at_, ?_, if_pos h9, hB2 b (by have := h1.lb; omega), Nat.le_trans hB h9, (h1.own.okk (fun y q hlt => ⟨hB2 y (by omega), ?_⟩)).ext k, (h1.raw.okk (fun y q hlt => ⟨hB2 y (by omega), ?_⟩)).ext k, OwnK.nil _, h1.len, rfl, fun j u x _ q1 q2 => ((h1.rows j u x q1 q2).okk (fun y q hlt => ⟨hB2 y (by omega), ?_⟩)).ext k, fun j u x q => by cases q⟩⟩
  · rw [hl b h1.at_.lt, h1.lb, if_pos (by omega)]
  · show lab' y = 2
    rw [hl y hlt, q, if_pos (by omega)]
  · show lab' y = 3
    rw [hl y hlt, q, if_pos (by omega)]
  · show lab' y = 7 + j
    rw [hl y hlt, q, if_neg (by omega)]; omega
/-- One row more. -/
theorem Mvr.step {u u' vout' : Value} {x : List Int} (h : Mvr W H T e T9 b b9 B lab p n s vo vr vs vout ws i) (hu : vs[i]? = some u) (hx : s.2.2[i]? = some x) (hB : B ≤ H.bd)
    (ch : But (fun y => y = b9 ∨ some y = vout.ownBlock ∨ some y = u.ownBlock) H H') (ha : At W H' b9 ⟨T9, [.int .i64 n, vo, .int .i64 p, .int .i64 (s.1 : Int), vout'], 5⟩) (ho : OwnK kV e W H' (fun y => some y = vout'.ownBlock) vout' (ws ++ [u'])) (hw : OwnK kI 2 W H' (fun y => some y = u'.ownBlock) u' (padL s.1 x))
    (h1 : ∀ y, some y = vout'.ownBlock → some y = vout.ownBlock ∨ H.bd ≤ y) (h2 : ∀ y, some y = u'.ownBlock → some y = u.ownBlock ∨ H.bd ≤ y) (hd : ∀ y, some y = vout'.ownBlock → some y = u'.ownBlock → False) :
    ∃ lab', Mvr W H' T e T9 b b9 B lab' p n s vo vr vs vout' (ws ++ [u']) (i + 1) := by
  have hcu := h.rest i u x (Nat.le_refl _) hu hx
  have ko : ∀ y, some y = vout.ownBlock → (B ≤ y ∧ lab y = 4) ∧ y < H.bd := fun y q => ⟨(h.out.blk y q).1, (h.out.blk y q).2.1⟩
  have ku : ∀ y, some y = u.ownBlock → (B ≤ y ∧ lab y = 7 + i) ∧ y < H.bd := fun y q => ⟨(hcu.blk y q).1, (hcu.blk y q).2.1⟩
  have hW : ∀ y, (y = b9 ∨ some y = vout.ownBlock ∨ some y = u.ownBlock) → W.heap.size ≤ y := fun y q => by
    rcases q with q | q | q
    · rw [q]; exact h.at9.w
    · exact (h.out.blk y q).2.2
    · exact (hcu.blk y q).2.2
  have hout : ∀ y m, lab y = m → m ≠ 6 → m ≠ 4 → m ≠ 7 + i → ¬ (y = b9 ∨ some y = vout.ownBlock ∨ some y = u.ownBlock) := fun y m q n1 n2 n3 q2 => by
    rcases q2 with q2 | q2 | q2
    · rw [q2, h.l9] at q; omega
    · have := (ko y q2).1.2; omega
    · have := (ku y q2).1.2; omega
  classical
  let lab' : Nat → Nat := fun y => if some y = vout'.ownBlock then 4 else if some y = u'.ownBlock then 7 + i else if H.bd ≤ y then 0 else if lab y = 4 ∨ lab y = 7 + i then 0 else lab y
  have lo : ∀ y, some y = vout'.ownBlock → lab' y = 4 := fun y q => if_pos q
  have lu : ∀ y, some y = u'.ownBlock → lab' y = 7 + i := fun y q => by
    show (if _ then _ else _) = _
    rw [if_neg (fun q2 => hd y q2 q), if_pos q]
  have lold : ∀ y m, y < H.bd → lab y = m → m ≠ 4 → m ≠ 7 + i → lab' y = m := fun y m h0 hm n2 n3 => by
    show (if _ then _ else _) = _
    rw [if_neg (fun q => by rcases h1 y q with g | g; (have := (ko y g).1.2; omega); omega), if_neg (fun q => by rcases h2 y q with g | g; (have := (ku y g).1.2; omega); omega), if_neg (by omega), if_neg (by omega)]; exact hm
  have kp : ∀ {α : Type} {K : Kd α} {e : Nat} {v : Value} {l : List α} {m : Nat}, OwnK K e W H (fun y => B ≤ y ∧ lab y = m) v l → m ≠ 6 → m ≠ 4 → m ≠ 7 + i → OwnK K e W H' (fun y => B ≤ y ∧ lab' y = m) v l := fun {α K e v l m} g n1 n2 n3 => by
    have g2 := g.okk (ok' := fun y => (B ≤ y ∧ lab y = m) ∧ y < H.bd) (fun y hy hlt => ⟨hy, hlt⟩)
    exact (g2.but ch (fun y hy _ => hout y m hy.1.2 n1 n2 n3) hW).okk (fun y hy _ => ⟨hy.1.1, lold y m hy.2 hy.1.2 n2 n3⟩)
  refine ⟨lab', h.at_.but ch (hout b 1 h.lb (by omega) (by omega) (by omega)), ha, lold b 1 h.at_.lt h.lb (by omega) (by omega), lold b9 6 h.at9.lt h.l9 (by omega) (by omega), h.bB, h.b9B, kp h.own (by omega) (by omega) (by omega), kp h.raw (by omega) (by omega) (by omega), ho.okk (fun y q _ => ⟨?_, lo y q⟩), h.len, by rw [List.length_append, h.lw]; rfl, fun j w z hj q1 q2 => kp (h.rest j w z (by omega) q1 q2) (by omega) (by omega) (by omega), fun j w z q1 q2 => ?_⟩
  · rcases h1 y q with g | g
    · exact (ko y g).1.1
    · omega
  · rw [List.getElem?_append, h.lw] at q1
    by_cases hj : j < i
    · rw [if_pos hj] at q1
      exact kp (h.done j w z q1 q2) (by omega) (by omega) (by omega)
    · rw [if_neg hj] at q1
      have hj0 : j - i = 0 := by
        have := (List.getElem?_eq_some_iff.1 q1).1
        simp at this; omega
      obtain rfl : j = i := by omega
      rw [hj0] at q1
      cases q1
      rw [hx] at q2
      cases q2
      exact hw.okk (fun y q _ => ⟨by
        rcases h2 y q with g | g
        · exact (ku y g).1.1
        · omega, lu y q⟩)
/-- All rows are there. -/
theorem Mvr.fin (h : Mvr W H T e T9 b b9 B lab p n s vo vr vs vout ws i) (hi : s.2.2.length ≤ i) : ∃ la : Nat → Nat, OwnK kI 2 W H (fun y => B ≤ y ∧ la y = 0) vo s.2.1 ∧ OwnD (kO 2 kI) e W H (fun y => B ≤ y ∧ la y = 1) vout (s.2.2.map (padL s.1)) ∧ i = s.2.2.length ∨ s.2.2.length < i := by
  rcases Nat.lt_or_ge s.2.2.length i with h9 | h9
  · exact ⟨fun _ => 0, .inr h9⟩
  have hi2 : i = s.2.2.length := by omega
  refine ⟨fun y => if lab y = 4 ∨ 7 ≤ lab y then 1 else 0, .inl ⟨h.own.okk (fun y q _ => ⟨q.1, ?_⟩), own_raw (lab := fun y => lab y - 7) (h.out.okk (fun y q _ => ⟨q.1, ?_⟩)) (by rw [List.length_map, h.lw, hi2]) (fun j u x q1 q2 => ?_), hi2⟩⟩
  · show (if _ then _ else _) = 0
    rw [if_neg (by have := q.2; omega)]
  · show (if _ then _ else _) = 1
    rw [if_pos (.inl q.2)]
  · rw [List.getElem?_map, Option.map_eq_some_iff] at q2
    obtain ⟨z, hz, rfl⟩ := q2
    exact (h.done j u z q1 hz).okk (fun y q _ => ⟨⟨q.1, if_pos (.inr (by omega))⟩, fun q3 => by have := (h.out.blk y q3).1.2; omega, by omega⟩)
end
section
variable {P : Program} {W : World} {N : Nat} {Q : Exit → List (Nat × Value) → Hp → Prop} {E : List (Nat × Value)} {H H' : Hp} {x y : Operand} {ty : TypeId} {pos : String} {af : Array Edge} {gd : Option (Nat × Bool)} {t : TypeId}
/-- copy(own, row). -/
theorem WV.cpK {e : TypeId} {z : Value} {bytes : Nat} {ok okx : Nat → Prop} {v u : Value} {lo l : List Int} {t2 : TypeId} {dst : Option Nat} (ht : SlT P t e z 1 bytes) (hx : evl E x = some v) (hy : evl E y = some u) (hv : OwnK kI e W H ok v lo) (hu : RdK kI W H okx u l) (hle : l.length ≤ lo.length) (h0 : 0 < l.length) :
    WV P W N E H ⟨dst, .call { callee := .builtin .copy, args := #[x, y], argTypes := #[t, t2] }, ty, pos, af, gd⟩ (fun _ H' => But (fun b => some b = v.ownBlock) H H' ∧ OwnK kI e W H' ok v (l ++ lo.drop l.length)) := by
  obtain ⟨css, hs, hl, ho, hat⟩ := hv
  obtain ⟨csu, hsu, hru⟩ := hu
  obtain ⟨hlu, hou, A, c, rfl, hcu, hmu, hA, hR⟩ := hru
  have hf := (hs.flat (fun _ _ _ h => kI.len h))
  have hfu := (hsu.flat (fun _ _ _ h => kI.len h))
  have e1 : ∀ {k : List Int} {cs : List (List Value)}, Segs (fun _ x cs => kI.rd W H ok x cs) k cs → cs.flatten = k.map (Value.int .i64) := fun {k} {cs} q => by
    have : cs = k.map (fun x => [Value.int .i64 x]) := by
      apply List.ext_getElem
      · rw [q.1, List.length_map]
      · intro j h1 h2
        rw [List.length_map] at h2
        rw [List.getElem_map]
        exact q.2 j _ _ (List.getElem?_eq_getElem h2) (List.getElem?_eq_getElem h1)
    rw [this]
    clear this q
    induction k with
    | nil => rfl
    | cons a k ih => simp [ih]
  have f1 : css.flatten = lo.map (Value.int .i64) := e1 (hs.imp fun _ _ _ h => kI.okk (ok' := ok) (fun b hb _ => hb.1) h)
  have f2 : csu.flatten = l.map (Value.int .i64) := e1 (hsu.imp fun _ _ _ h => h)
  cases A with
  | none => have := hA rfl; omega
  | some ad =>
    rcases hat with ⟨rfl, h3⟩ | ⟨g, c', rfl, hg, hAt, hc', hm'⟩
    · omega
    · have ebl : (fun b => some b = (Value.slice (some ⟨g, 0, none⟩) lo.length c').ownBlock) = fun b => b = g := by
        funext b; simp [Value.ownBlock]
      rw [ebl]
      have hcl : csu.flatten.length = l.length := by rw [f2, List.length_map]
      refine (WV.cp (cs := csu.flatten) (p := (l ++ lo.drop l.length).map (Value.int .i64)) ht hx hy hAt (by rw [hcl, Nat.mul_one]; omega) (fun j w hj => (hR ad rfl h0 j w hj).1) (Nat.zero_le _) (by show 0 + _ ≤ c' * 1; rw [hcl]; omega) hou (by
        show _ <+: (css.flatten.take 0 ++ csu.flatten ++ css.flatten.drop (0 + csu.flatten.length))
        rw [hcl, f1, f2, List.take_zero, List.nil_append, Nat.zero_add, List.map_append, List.map_drop]
        exact List.prefix_refl _)).mono fun _ H' ⟨k1, k2⟩ => ⟨k1, (l ++ lo.drop l.length).map (fun x => [Value.int .i64 x]), ⟨by rw [List.length_map], fun i w cs q1 q2 => ?_⟩, ?_⟩
      · rw [List.getElem?_map, q1] at q2
        cases q2; rfl
      · have e3 : ((l ++ lo.drop l.length).map (fun x => [Value.int .i64 x])).flatten = (l ++ lo.drop l.length).map (Value.int .i64) := by
          generalize l ++ lo.drop l.length = k
          induction k with
          | nil => rfl
          | cons a k ih => simp [ih]
        have e4 : (l ++ lo.drop l.length).length = lo.length := by rw [List.length_append, List.length_drop]; omega
        rw [e3, e4]
        refine ⟨by rw [List.length_map, e4]; exact (Nat.mul_one _).symm, fun w hw => ?_, .inr ⟨g, c', rfl, hg, k2, hc', hm'⟩⟩
        obtain ⟨a, _, rfl⟩ := List.mem_map.1 hw
        rfl
/-- What were numbers are numbers, what were rows are these rows. -/
def Mq (W : World) (H H' : Hp) (ok : Nat → Prop) : Prop := ∀ b o, ok b → (∀ a, rdc W H ⟨b, o, none⟩ = some (.int .i64 a) → ∃ a', rdc W H' ⟨b, o, none⟩ = some (.int .i64 a')) ∧ ∀ v n, IsSl v n → rdc W H ⟨b, o, none⟩ = some v → rdc W H' ⟨b, o, none⟩ = some v
theorem Mq.refl (W : World) (H : Hp) (ok : Nat → Prop) : Mq W H H ok := fun _ _ _ => ⟨fun a h => ⟨a, h⟩, fun _ _ _ h => h⟩
theorem Mq.ext {W : World} {H0 H H' : Hp} {ok : Nat → Prop} (h : Mq W H0 H ok) (k : Ext H H') : Mq W H0 H' ok := fun b o hb => ⟨fun a q => by
    obtain ⟨a', g⟩ := (h b o hb).1 a q
    exact ⟨a', rdc_ext k g⟩, fun v n q1 q2 => rdc_ext k ((h b o hb).2 v n q1 q2)⟩
end
end Go.Proofs.Yticobjbjejpomaa.VC

