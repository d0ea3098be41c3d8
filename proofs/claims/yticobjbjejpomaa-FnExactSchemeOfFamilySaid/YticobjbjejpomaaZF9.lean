/- Walks. -/
import Derived.Test.YticobjbjejpomaaZF
import Derived.Test.YticobjbjejpomaaZM
set_option linter.unusedVariables false
set_option linter.unusedSimpArgs false
namespace Go.Proofs.Yticobjbjejpomaa.VC
open Go Go.RowKit
def isPr (p : Int) : Bool := decide (p ∈ ([2, 3, 5, 7, 11, 13, 17, 19, 23, 29, 31] : List Int))
theorem isPr_all : ∀ p : Fin 32, 2 ≤ p.val → (∀ e : Fin 6, 2 ≤ e.val → e.val * e.val ≤ p.val → p.val % e.val ≠ 0) → isPr (p.val : Int) = true := by decide +kernel
theorem isPr_of {p : Int} (h : primeI p) : isPr p = true := by
  obtain ⟨⟨h1, h2⟩, h3⟩ := h
  obtain ⟨p, rfl⟩ : ∃ n : Nat, p = n := ⟨p.toNat, by omega⟩
  refine isPr_all ⟨p, by omega⟩ (by simp only; omega) (fun e he hp hq => h3 (e.val : Int) (by omega) (by exact_mod_cast hp) ?_)
  have : (p : Int) % (e.val : Int) = ((p % e.val : Nat) : Int) := by simp
  rw [this]
  simp only at hq
  rw [hq]; rfl
/-- Rows of one length of elements. -/
def rect (p : Int) (K : Nat) (rows : List (List Int)) : Prop := ∀ i, i < rows.length → (rows.getD i []).length = K ∧ elems p (rows.getD i [])
/-- What a right scheme is. -/
structure ScF (n : Int) (o : List Int) (p k : Int) (l : List (List Int)) : Prop where
  q : isPr p = true
  hn : 1 ≤ n ∧ n ≤ 7
  k0 : k = (k.toNat : Int)
  k1 : 1 ≤ k.toNat ∧ k.toNat ≤ 12
  r : rect p k.toNat l
  R : l.length ≤ 20
  ol : o.length = l.length
  ob : ∀ x ∈ o, 0 ≤ x ∧ x ≤ n - 1
theorem okSc_f {n : Int} {o : List Int} {p k : Int} {l : List (List Int)} (h : okSc n o p k l) : ScF n o p k l := by
  obtain ⟨h1, ⟨m1, m2, m3, m4⟩, h3, h4, h5⟩ := h
  refine ⟨isPr_of m1, h1, by omega, by omega, fun i hi => ?_, m3, h4, h5⟩
  have e : l.getD i [] = l[i] := by simp [hi]
  have := m4 _ (List.getElem_mem hi)
  rw [e]; exact ⟨by omega, this.1⟩
theorem zc_one (k : Nat) : Builtin.zeroCells (Value.int .i64 0).cells k = (List.replicate k (Value.int .i64 0)).toArray := by
  apply Array.ext'
  have h : (Value.int .i64 0).cells = #[Value.int .i64 0] := rfl
  simp only [Builtin.zeroCells, h, Array.toList_map, Array.toList_range]
  apply List.ext_getElem
  · simp
  · intro j h1 h2
    simp [Nat.mod_one]
section
variable {P : Program} (w : World)
theorem run_append_room_zeros (t tn ty e : TypeId) (i : TypeInfo) (kq kn : IntKind) (ht : P.underlying t = some (.slice e)) (hu : P.underlying tn = some (.int kn)) (hi : P.info? e = some i) (hz : i.zero = some (.int .i64 0)) (hs1 : i.size = 1) (hb1 : i.bytes = 8)
    (g sLen sCap : Nat) (cur : Array Value) (hg : w.heap[g]? = some (.cells cur e (0, 0))) (k : Nat) (h63 : k ≤ 1000000000000) (hroom : sLen + k ≤ sCap) (hfit : sLen + k ≤ cur.size) :
    (Builtin.append_ #[t, tn] ty #[.slice (some ⟨g, 0, none⟩) sLen sCap, .int kq k]).run P w =
      .ok (.slice (some ⟨g, 0, none⟩) (sLen + k) sCap) (w.setRow g (cur.toList.take sLen ++ List.replicate k (Value.int .i64 0) ++ cur.toList.drop (sLen + k)).toArray) := by
  have hst := run_storeCells_at P g sLen e (List.replicate k (Value.int .i64 0)) 0 cur w hg (by simpa using hfit) (fun v hv => by rw [List.eq_of_mem_replicate hv]; rfl)
  simp only [Nat.add_zero, List.length_replicate] at hst
  have hw : IntKind.i64.wrap (k : Int) = k := by rw [IntKind.wrap_i64]; omega
  have hneg : ¬ ((k : Int) < 0) := by omega
  have h48i : ¬ (281474976710656 < (k : Int) * 8) := by omega
  by_cases hk : k = 0
  · subst hk
    simp only [List.replicate_zero, Nat.add_zero, List.append_nil, List.take_append_drop] at hst ⊢
    have hw0 : IntKind.i64.wrap 0 = 0 := by rw [IntKind.wrap_i64]; rfl
    have hroom' : sLen ≤ sCap := hroom
    simp [Builtin.append_, run_underlying ht, run_underlying hu, sizeOf, typeInfo, zeroValue, hi, hz, hs1, hb1, asInt, asIntOf, hw0, hroom', Addr.add_lit, hst]
  · simp [Builtin.append_, run_underlying ht, run_underlying hu, sizeOf, typeInfo, zeroValue, hi, hz, hs1, hb1, asInt, asIntOf, hw, hneg, h48i, hk, hroom, Addr.add_lit, zc_one, hst]
theorem run_append_own_zeros (base : Nat) (t tn ty e : TypeId) (i : TypeInfo) (kq kn : IntKind) (ht : P.underlying t = some (.slice e)) (hu : P.underlying tn = some (.int kn)) (hi : P.info? e = some i) (hz : i.zero = some (.int .i64 0)) (hs1 : i.size = 1) (hb1 : i.bytes = 8)
    (v : Value) (n : Nat) (xs : List Value) (hown : w.ownsRow base e 1 v n xs) (k : Nat) (h63 : n + k ≤ 1000000000000) (hbase : base ≤ w.heap.size) :
    ∃ v' w', (Builtin.append_ #[t, tn] ty #[v, .int kq k]).run P w = .ok v' w' ∧ w'.ownsRow base e 1 v' (n + k) (xs ++ List.replicate k (Value.int .i64 0)) ∧ w.grownBy w' v.ownBlock ∧ (v'.ownBlock = v.ownBlock ∨ v'.ownBlock = some w.heap.size) := by
  have hxl : xs.length = n := by simpa using hown.1
  have hlen : (xs ++ List.replicate k (Value.int .i64 0)).length = (n + k) * 1 := by rw [List.length_append, hxl, List.length_replicate, Nat.mul_one]
  have grown : ∀ (old : Nat), old < n + k → ∀ (row : Option Nat),
      (w.drew.alloc (.cells (xs.toArray ++ Builtin.zeroCells (Value.int .i64 0).cells k ++ Builtin.zeroCells (Value.int .i64 0).cells (grownCap w (n + k) old e - (n + k))) e)).ownsRow base e 1
        (.slice (some ⟨w.heap.size, 0, none⟩) (n + k) (grownCap w (n + k) old e)) (n + k) (xs ++ List.replicate k (Value.int .i64 0)) ∧
      w.grownBy (w.drew.alloc (.cells (xs.toArray ++ Builtin.zeroCells (Value.int .i64 0).cells k ++ Builtin.zeroCells (Value.int .i64 0).cells (grownCap w (n + k) old e - (n + k))) e)) row := by
    intro old ho row
    have hge := grownCap_ge w (n + k) old e
    have hcm : grownCap w (n + k) old e ≤ maxLen := grownCap_le_maxLen w (n + k) old e (by simp only [maxLen]; omega)
    refine ⟨⟨hlen, .inr ⟨w.heap.size, _, _, rfl, hbase, heap_alloc_new w.drew _, hge, hcm, ?_, ?_⟩⟩, ⟨rfl, rfl, rfl, by simp, fun k hk _ => heap_alloc_old w.drew _ k hk⟩⟩
    · have hz1 : (Value.int IntKind.i64 0).cells.size = 1 := rfl
      simp only [Array.size_append, List.size_toArray, size_zeroCells, hz1, hxl]
      omega
    · rw [zc_one]
      simp only [Array.toList_append, List.append_assoc]
      rw [← List.append_assoc, ← hlen]
      exact List.take_left
  have hw : IntKind.i64.wrap (k : Int) = k := by rw [IntKind.wrap_i64]; omega
  rcases hown.2 with ⟨rfl, rfl⟩ | ⟨g, cap, cur, rfl, hbg, hg, hnc, hcm, hcs, htake⟩
  · have hx : xs = [] := List.eq_nil_of_length_eq_zero hxl
    subst hx
    by_cases hm : k = 0
    · subst hm
      refine ⟨.slice none 0 0, w, ?_, World.ownsRow_nil w base e 1, ⟨rfl, rfl, rfl, Nat.le_refl _, fun _ _ _ => rfl⟩, Or.inl rfl⟩
      simp [Builtin.append_, run_underlying ht, run_underlying hu, sizeOf, typeInfo, hi, hs1, hb1, asInt, asIntOf, IntKind.wrap_i64]
    · have hr := Lib.run_append_nil_zeros (P := P) w t tn ty e i (.int .i64 0) kq kn ht hu hi hz k (by omega) (by omega) (by omega) (by rw [hb1]; omega)
      have hgr := grown 0 (by omega) (Value.ownBlock (.slice none 0 0))
      simp only [Nat.zero_add, List.nil_append, Array.empty_append] at hgr ⊢
      exact ⟨_, _, hr, hgr.1, hgr.2, Or.inr rfl⟩
  · by_cases hroom : n + k ≤ cap
    · have hcs' : cur.size = cap := by simpa using hcs
      have hr := run_append_room_zeros (P := P) w t tn ty e i kq kn ht hu hi hz hs1 hb1 g n cap cur hg k (by omega) hroom (by omega)
      refine ⟨_, _, hr, ⟨hlen, .inr ⟨g, cap, _, rfl, hbg, setRow_heap w g cur _ e _ hg, hroom, hcm, ?_, ?_⟩⟩, ⟨rfl, rfl, rfl, by simp, fun k _ hk => setRow_other w g k _ (fun e => hk (by simp [Value.ownBlock, e]))⟩, Or.inl rfl⟩
      · simp only [List.size_toArray, List.length_append, List.length_take, List.length_drop, Array.length_toList, List.length_replicate]
        omega
      · have ht' : cur.toList.take n = xs := by simpa using htake
        rw [ht', ← hlen]
        exact List.take_left
    · have holds : ∀ j u, xs[j]? = some u → w.cell? ((⟨g, 0, none⟩ : Addr).add j) = some u := hown.cells (g := g) rfl
      have hfo := run_firstCells_some (P := P) w.drew i.size n ⟨g, 0, none⟩ n cap xs (by rw [hs1]; simpa using hxl) (by simpa using holds)
      have hr := Lib.run_append_grow_zeros (P := P) w t tn ty e i (.int .i64 0) kq kn ht hu hi hz (some ⟨g, 0, none⟩) n cap xs hfo k (by omega) (by omega) (by omega) (by omega) (by rw [hb1]; omega) (by rw [hb1]; exact growslice_fits (by omega) (by omega))
      have hgr := grown cap (by omega) (Value.ownBlock (.slice (some ⟨g, 0, none⟩) n cap))
      exact ⟨_, _, hr, hgr.1, hgr.2, Or.inr rfl⟩
end
section
variable {P : Program} {W : World} {N : Nat} {E : List (Nat × Value)} {H : Hp} {d : Nat} {ty : TypeId} {pos : String} {af : Array Edge} {gd : Option (Nat × Bool)} {t tn : TypeId} {x y : Operand} {ok : Nat → Prop} {v : Value} {l : List Int}
theorem rep_flat {β : Type} (u : β) : ∀ k : Nat, (List.replicate k [u]).flatten = List.replicate k u
  | 0 => rfl
  | k + 1 => by rw [List.replicate_succ, List.flatten_cons, rep_flat u k, List.replicate_succ]; rfl
/-- A row of the call's own gets zeros. -/
theorem WV.apzK {e : TypeId} {kq kn : IntKind} {q : Int} (ht : SlT P t e (.int .i64 0) 1 8) (htn : P.underlying tn = some (.int kn)) (hx : evl E x = some v) (hy : evl E y = some (.int kq q)) (hv : OwnK kI e W H ok v l) (hq : 0 ≤ q) (hm : l.length + q.toNat ≤ 1000000000000) :
    WV P W N E H ⟨some d, .call { callee := .builtin .append, args := #[x, y], argTypes := #[t, tn] }, ty, pos, af, gd⟩
      (fun v' H' => But (fun b => some b = v.ownBlock) H H' ∧ OwnK kI e W H' (fun b => ok b ∨ H.bd ≤ b) v' (l ++ List.replicate q.toNat 0) ∧ (∀ b, some b = v'.ownBlock → some b = v.ownBlock ∨ H.bd ≤ b)) := by
  obtain ⟨k, rfl⟩ : ∃ k : Nat, q = k := ⟨q.toNat, by omega⟩
  rw [Int.toNat_natCast] at hm ⊢
  obtain ⟨css, h1, h2⟩ := hv
  have h2' : OwnV W H (fun b => some b = v.ownBlock) e 1 v l.length css.flatten := by
    obtain ⟨i1, i2, i3⟩ := h2
    refine ⟨i1, i2, ?_⟩
    rcases i3 with i3 | ⟨g, c, rfl, j1, j2, j3⟩
    · exact .inl i3
    · exact .inr ⟨g, c, rfl, rfl, j2, j3⟩
  have hokW : ∀ b, some b = v.ownBlock → W.heap.size ≤ b := fun b hb => (h2.blk b hb).2.2
  refine (WV.of (Po := fun v' H' => But (fun b => some b = v.ownBlock) H H' ∧ OwnV W H' (fun b => some b = v.ownBlock ∨ H.bd ≤ b) e 1 v' (l.length + k) (css.flatten ++ List.replicate k (Value.int .i64 0))) (fun a w ha hw => ?_)).mono fun v' H' ⟨k1, k2⟩ => ⟨k1, ⟨css ++ List.replicate k [Value.int .i64 0], ?_, ?_⟩, (fun b hb => (k2.blk b hb).1)⟩
  · obtain ⟨hu', ⟨i, hi, hz, hs, hby⟩, hzc, hp⟩ := ht
    have hown := h2'.owns hw
    obtain ⟨v', w', hrun, ho, hgr, hat⟩ := run_append_own_zeros (P := P) w W.heap.size t tn ty e i kq kn hu' htn hi hz hs hby v l.length css.flatten hown k hm hw.below.size
    obtain ⟨H', g1, g2, g3⟩ := hw.grown hgr (fun b hb => hokW b hb.symm) (fun u hu => by
      rcases List.mem_append.1 hu with h | h
      · exact h2'.one u h
      · rw [List.eq_of_mem_replicate h]; rfl) ho hat
    exact ⟨v', w', H', by simp [execOp, resolve, invoke, builtin, ha.ev hx, ha.ev hy, hrun], g1, g2, g3⟩
  · have hW := hokW
    refine segs_append (h1.imp fun _ _ cs hK => hK) ⟨by simp, fun i z cs hz hc => ?_⟩
    rw [List.getElem?_replicate] at hz hc
    split at hz
    · rw [if_pos (by assumption)] at hc
      cases hz; cases hc; rfl
    · cases hz
  · have e1 : (css ++ List.replicate k [Value.int .i64 0]).flatten = css.flatten ++ List.replicate k (Value.int .i64 0) := by
      rw [List.flatten_append]
      rw [rep_flat]
    rw [e1, List.length_append, List.length_replicate]
    exact k2.ok (fun b hb _ => by
      rcases hb with hb | hb
      · exact .inl (h2.blk b hb).1
      · exact .inr hb)
end
section
variable {P : Program} {W : World} {N : Nat} {E : List (Nat × Value)} {H : Hp} {d : Nat} {ty : TypeId} {pos : String} {af : Array Edge} {gd : Option (Nat × Bool)} {t : TypeId} {x y : Operand} {ok : Nat → Prop} {v : Value} {l : List Int}
end
variable {W : World} {H : Hp}

set_option maxRecDepth 100000 in
theorem l00Own_ok {v : Value} {l : List Int} {ok : Nat → Prop} (hr : RdK kI W H ok v l) (hl : l.length ≤ 1048576) : ACalls Try.prog W 85 #[v] H (fun r H' => Ext H H' ∧ OwnK kI 2 W H' (fun b => H.bd ≤ b) r l) := by
  refine ACalls.of (args := [v]) Try.func85 rfl rfl ?_
  have X0 := Ext.refl H
  have hm1 := hr.max
  refine AW.rs ?_
  refine AL.val rfl (.inl rfl) (HV.as rfl) ?_
  refine AL.nx ?_
  refine AW.rs ?_
  have o2 := X0.bd
  refine AL.w rfl (.inl rfl) (WV.bsK (K := kI) (l := ([] : List Int)) (css := []) sl22 rfl rfl (by first | rfl | (simp [Instr.fill, Value.cells, kI, kB, kU, kU8, kS, Kd.sc]; done) | (simp [Instr.fill, Value.cells, kI, kB, kU, kU8, kS, Kd.sc, rng1, rng2, rng3, rng4, kP])) rfl segs_nil) ?_
  rintro v3 H4 ⟨hx5, ho6⟩
  have X7 := Ext.trans X0 hx5
  refine AL.val rfl (.inl rfl) (HV.mv rfl) ?_
  have X9 := Ext.refl H4
  refine AL.w rfl (.inl rfl) (WV.apk sl22 rfl rfl ho6 (hr.lo.ext X7) (by simp; omega) (by simp; omega) (fun b hb _ e => by have h1 : H.bd ≤ b := (ho6.blk b e).1; have h2 : b < H.bd := hb; have h3 := o2; omega)) ?_
  rintro v10 H11 ⟨hx12, ho13, hb14⟩
  have ho15 := ho13.narrow (ok' := fun b => H.bd ≤ b) kI_flat (fun b q => (hb14 b q).elim (fun e => (ho6.blk b e).1) (fun e => Nat.le_trans X7.bd e))
  have X16 := Ext.thru X7 hx12 (fun b hb => Nat.le_trans o2 (ho6.blk b hb).1)
  refine AL.val rfl (.inl rfl) (HV.as rfl) ?_
  refine AL.nx ?_
  refine AW.ret ?_
  refine post_one rfl rfl ?_ (.inr rfl)
  exact ⟨X16, ho15.okk (fun b hb _ => Nat.le_trans o2 hb)⟩

end Go.Proofs.Yticobjbjejpomaa.VC

