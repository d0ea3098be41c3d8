/- Walks. -/
import Derived.Test.YticobjbjejpomaaVF
import Derived.Test.YticobjbjejpomaaVM
set_option linter.unusedVariables false
set_option linter.unusedSimpArgs false
namespace Go.Proofs.Yticobjbjejpomaa.VC
open Go Go.RowKit
def isPr (p : Int) : Bool := decide (p ∈ ([2, 3, 5, 7, 11, 13, 17, 19, 23, 29, 31] : List Int))
theorem isPr_bd {p : Int} (h : isPr p = true) : 2 ≤ p ∧ p ≤ 31 := by
  simp only [isPr, decide_eq_true_eq, List.mem_cons, List.mem_nil_iff, or_false] at h
  omega
theorem isPr_all : ∀ p : Fin 32, 2 ≤ p.val → (∀ e : Fin 6, 2 ≤ e.val → e.val * e.val ≤ p.val → p.val % e.val ≠ 0) → isPr (p.val : Int) = true := by decide +kernel
theorem isPr_of {p : Int} (h : primeI p) : isPr p = true := by
  obtain ⟨⟨h1, h2⟩, h3⟩ := h
  obtain ⟨p, rfl⟩ : ∃ n : Nat, p = n := ⟨p.toNat, by omega⟩
  refine isPr_all ⟨p, by omega⟩ (by simp only; omega) (fun e he hp hq => h3 (e.val : Int) (by omega) (by exact_mod_cast hp) ?_)
  have : (p : Int) % (e.val : Int) = ((p % e.val : Nat) : Int) := by simp
  rw [this]
  simp only at hq
  rw [hq]; rfl
/-- Rows of one length of elements. -/
def rect (p : Int) (K : Nat) (rows : List (List Int)) : Prop := ∀ i, i < rows.length → (rows.getD i []).length = K ∧ elems p (rows.getD i [])
theorem rect_at {p : Int} {K : Nat} {l : List (List Int)} {q : Int} {z : List Int} (h : rect p K l) (hz : l[q.toNat]? = some z) : z.length = K ∧ elems p z := by
  have hi := (List.getElem?_eq_some_iff.1 hz).1
  have := h q.toNat hi
  rwa [List.getD_eq_getElem?_getD, hz] at this
/-- What a right scheme is. -/
structure ScF (n : Int) (o : List Int) (p k : Int) (l : List (List Int)) : Prop where
  q : isPr p = true
  hn : 1 ≤ n ∧ n ≤ 7
  k0 : k = (k.toNat : Int)
  k1 : 1 ≤ k.toNat ∧ k.toNat ≤ 12
  r : rect p k.toNat l
  R : l.length ≤ 20
  ol : o.length = l.length
  ob : ∀ x ∈ o, 0 ≤ x ∧ x ≤ n - 1
theorem okSc_f {n : Int} {o : List Int} {p k : Int} {l : List (List Int)} (h : okSc n o p k l) : ScF n o p k l := by
  obtain ⟨h1, ⟨m1, m2, m3, m4⟩, h3, h4, h5⟩ := h
  refine ⟨isPr_of m1, h1, by omega, by omega, fun i hi => ?_, m3, h4, h5⟩
  have e : l.getD i [] = l[i] := by simp [hi]
  have := m4 _ (List.getElem_mem hi)
  rw [e]; exact ⟨by omega, this.1⟩
theorem ScF.pb {n : Int} {o : List Int} {p k : Int} {l : List (List Int)} (h : ScF n o p k l) : 2 ≤ p ∧ p ≤ 31 := isPr_bd h.q
theorem zc_one (k : Nat) : Builtin.zeroCells (Value.int .i64 0).cells k = (List.replicate k (Value.int .i64 0)).toArray := by
  apply Array.ext'
  have h : (Value.int .i64 0).cells = #[Value.int .i64 0] := rfl
  simp only [Builtin.zeroCells, h, Array.toList_map, Array.toList_range]
  apply List.ext_getElem
  · simp
  · intro j h1 h2
    simp [Nat.mod_one]
section
variable {P : Program} (w : World)
theorem run_append_room_zeros (t tn ty e : TypeId) (i : TypeInfo) (kq kn : IntKind) (ht : P.underlying t = some (.slice e)) (hu : P.underlying tn = some (.int kn)) (hi : P.info? e = some i) (hz : i.zero = some (.int .i64 0)) (hs1 : i.size = 1) (hb1 : i.bytes = 8)
    (g sLen sCap : Nat) (cur : Array Value) (hg : w.heap[g]? = some (.cells cur e (0, 0))) (k : Nat) (h63 : k ≤ 1000000000000) (hroom : sLen + k ≤ sCap) (hfit : sLen + k ≤ cur.size) :
    (Builtin.append_ #[t, tn] ty #[.slice (some ⟨g, 0, none⟩) sLen sCap, .int kq k]).run P w =
      .ok (.slice (some ⟨g, 0, none⟩) (sLen + k) sCap) (w.setRow g (cur.toList.take sLen ++ List.replicate k (Value.int .i64 0) ++ cur.toList.drop (sLen + k)).toArray) := by
  have hst := run_storeCells_at P g sLen e (List.replicate k (Value.int .i64 0)) 0 cur w hg (by simpa using hfit) (fun v hv => by rw [List.eq_of_mem_replicate hv]; rfl)
  simp only [Nat.add_zero, List.length_replicate] at hst
  have hw : IntKind.i64.wrap (k : Int) = k := by rw [IntKind.wrap_i64]; omega
  have hneg : ¬ ((k : Int) < 0) := by omega
  have h48i : ¬ (281474976710656 < (k : Int) * 8) := by omega
  by_cases hk : k = 0
  · subst hk
    simp only [List.replicate_zero, Nat.add_zero, List.append_nil, List.take_append_drop] at hst ⊢
    have hw0 : IntKind.i64.wrap 0 = 0 := by rw [IntKind.wrap_i64]; rfl
    have hroom' : sLen ≤ sCap := hroom
    simp [Builtin.append_, run_underlying ht, run_underlying hu, sizeOf, typeInfo, zeroValue, hi, hz, hs1, hb1, asInt, asIntOf, hw0, hroom', Addr.add_lit, hst]
  · simp [Builtin.append_, run_underlying ht, run_underlying hu, sizeOf, typeInfo, zeroValue, hi, hz, hs1, hb1, asInt, asIntOf, hw, hneg, h48i, hk, hroom, Addr.add_lit, zc_one, hst]
theorem run_append_own_zeros (base : Nat) (t tn ty e : TypeId) (i : TypeInfo) (kq kn : IntKind) (ht : P.underlying t = some (.slice e)) (hu : P.underlying tn = some (.int kn)) (hi : P.info? e = some i) (hz : i.zero = some (.int .i64 0)) (hs1 : i.size = 1) (hb1 : i.bytes = 8)
    (v : Value) (n : Nat) (xs : List Value) (hown : w.ownsRow base e 1 v n xs) (k : Nat) (h63 : n + k ≤ 1000000000000) (hbase : base ≤ w.heap.size) :
    ∃ v' w', (Builtin.append_ #[t, tn] ty #[v, .int kq k]).run P w = .ok v' w' ∧ w'.ownsRow base e 1 v' (n + k) (xs ++ List.replicate k (Value.int .i64 0)) ∧ w.grownBy w' v.ownBlock ∧ (v'.ownBlock = v.ownBlock ∨ v'.ownBlock = some w.heap.size) := by
  have hxl : xs.length = n := by simpa using hown.1
  have hlen : (xs ++ List.replicate k (Value.int .i64 0)).length = (n + k) * 1 := by rw [List.length_append, hxl, List.length_replicate, Nat.mul_one]
  have grown : ∀ (old : Nat), old < n + k → ∀ (row : Option Nat),
      (w.drew.alloc (.cells (xs.toArray ++ Builtin.zeroCells (Value.int .i64 0).cells k ++ Builtin.zeroCells (Value.int .i64 0).cells (grownCap w (n + k) old e - (n + k))) e)).ownsRow base e 1
        (.slice (some ⟨w.heap.size, 0, none⟩) (n + k) (grownCap w (n + k) old e)) (n + k) (xs ++ List.replicate k (Value.int .i64 0)) ∧
      w.grownBy (w.drew.alloc (.cells (xs.toArray ++ Builtin.zeroCells (Value.int .i64 0).cells k ++ Builtin.zeroCells (Value.int .i64 0).cells (grownCap w (n + k) old e - (n + k))) e)) row := by
    intro old ho row
    have hge := grownCap_ge w (n + k) old e
    have hcm : grownCap w (n + k) old e ≤ maxLen := grownCap_le_maxLen w (n + k) old e (by simp only [maxLen]; omega)
    refine ⟨⟨hlen, .inr ⟨w.heap.size, _, _, rfl, hbase, heap_alloc_new w.drew _, hge, hcm, ?_, ?_⟩⟩, ⟨rfl, rfl, rfl, by simp, fun k hk _ => heap_alloc_old w.drew _ k hk⟩⟩
    · have hz1 : (Value.int IntKind.i64 0).cells.size = 1 := rfl
      simp only [Array.size_append, List.size_toArray, size_zeroCells, hz1, hxl]
      omega
    · rw [zc_one]
      simp only [Array.toList_append, List.append_assoc]
      rw [← List.append_assoc, ← hlen]
      exact List.take_left
  have hw : IntKind.i64.wrap (k : Int) = k := by rw [IntKind.wrap_i64]; omega
  rcases hown.2 with ⟨rfl, rfl⟩ | ⟨g, cap, cur, rfl, hbg, hg, hnc, hcm, hcs, htake⟩
  · have hx : xs = [] := List.eq_nil_of_length_eq_zero hxl
    subst hx
    by_cases hm : k = 0
    · subst hm
      refine ⟨.slice none 0 0, w, ?_, World.ownsRow_nil w base e 1, ⟨rfl, rfl, rfl, Nat.le_refl _, fun _ _ _ => rfl⟩, Or.inl rfl⟩
      simp [Builtin.append_, run_underlying ht, run_underlying hu, sizeOf, typeInfo, hi, hs1, hb1, asInt, asIntOf, IntKind.wrap_i64]
    · have hr := Lib.run_append_nil_zeros (P := P) w t tn ty e i (.int .i64 0) kq kn ht hu hi hz k (by omega) (by omega) (by omega) (by rw [hb1]; omega)
      have hgr := grown 0 (by omega) (Value.ownBlock (.slice none 0 0))
      simp only [Nat.zero_add, List.nil_append, Array.empty_append] at hgr ⊢
      exact ⟨_, _, hr, hgr.1, hgr.2, Or.inr rfl⟩
  · by_cases hroom : n + k ≤ cap
    · have hcs' : cur.size = cap := by simpa using hcs
      have hr := run_append_room_zeros (P := P) w t tn ty e i kq kn ht hu hi hz hs1 hb1 g n cap cur hg k (by omega) hroom (by omega)
      refine ⟨_, _, hr, ⟨hlen, .inr ⟨g, cap, _, rfl, hbg, setRow_heap w g cur _ e _ hg, hroom, hcm, ?_, ?_⟩⟩, ⟨rfl, rfl, rfl, by simp, fun k _ hk => setRow_other w g k _ (fun e => hk (by simp [Value.ownBlock, e]))⟩, Or.inl rfl⟩
      · simp only [List.size_toArray, List.length_append, List.length_take, List.length_drop, Array.length_toList, List.length_replicate]
        omega
      · have ht' : cur.toList.take n = xs := by simpa using htake
        rw [ht', ← hlen]
        exact List.take_left
    · have holds : ∀ j u, xs[j]? = some u → w.cell? ((⟨g, 0, none⟩ : Addr).add j) = some u := hown.cells (g := g) rfl
      have hfo := run_firstCells_some (P := P) w.drew i.size n ⟨g, 0, none⟩ n cap xs (by rw [hs1]; simpa using hxl) (by simpa using holds)
      have hr := Lib.run_append_grow_zeros (P := P) w t tn ty e i (.int .i64 0) kq kn ht hu hi hz (some ⟨g, 0, none⟩) n cap xs hfo k (by omega) (by omega) (by omega) (by omega) (by rw [hb1]; omega) (by rw [hb1]; exact growslice_fits (by omega) (by omega))
      have hgr := grown cap (by omega) (Value.ownBlock (.slice (some ⟨g, 0, none⟩) n cap))
      exact ⟨_, _, hr, hgr.1, hgr.2, Or.inr rfl⟩
end
section
variable {P : Program} {W : World} {N : Nat} {E : List (Nat × Value)} {H : Hp} {d : Nat} {ty : TypeId} {pos : String} {af : Array Edge} {gd : Option (Nat × Bool)} {t tn : TypeId} {x y : Operand} {ok : Nat → Prop} {v : Value} {l : List Int}
theorem rep_flat {β : Type} (u : β) : ∀ k : Nat, (List.replicate k [u]).flatten = List.replicate k u
  | 0 => rfl
  | k + 1 => by rw [List.replicate_succ, List.flatten_cons, rep_flat u k, List.replicate_succ]; rfl
/-- A row of the call's own gets zeros. -/
theorem WV.apzK {e : TypeId} {kq kn : IntKind} {q : Int} (ht : SlT P t e (.int .i64 0) 1 8) (htn : P.underlying tn = some (.int kn)) (hx : evl E x = some v) (hy : evl E y = some (.int kq q)) (hv : OwnK kI e W H ok v l) (hq : 0 ≤ q) (hm : l.length + q.toNat ≤ 1000000000000) :
    WV P W N E H ⟨some d, .call { callee := .builtin .append, args := #[x, y], argTypes := #[t, tn] }, ty, pos, af, gd⟩
      (fun v' H' => But (fun b => some b = v.ownBlock) H H' ∧ OwnK kI e W H' (fun b => ok b ∨ H.bd ≤ b) v' (l ++ List.replicate q.toNat 0) ∧ (∀ b, some b = v'.ownBlock → some b = v.ownBlock ∨ H.bd ≤ b)) := by
  obtain ⟨k, rfl⟩ : ∃ k : Nat, q = k := ⟨q.toNat, by omega⟩
  rw [Int.toNat_natCast] at hm ⊢
  obtain ⟨css, h1, h2⟩ := hv
  have h2' : OwnV W H (fun b => some b = v.ownBlock) e 1 v l.length css.flatten := by
    obtain ⟨i1, i2, i3⟩ := h2
    refine ⟨i1, i2, ?_⟩
    rcases i3 with i3 | ⟨g, c, rfl, j1, j2, j3⟩
    · exact .inl i3
    · exact .inr ⟨g, c, rfl, rfl, j2, j3⟩
  have hokW : ∀ b, some b = v.ownBlock → W.heap.size ≤ b := fun b hb => (h2.blk b hb).2.2
  refine (WV.of (Po := fun v' H' => But (fun b => some b = v.ownBlock) H H' ∧ OwnV W H' (fun b => some b = v.ownBlock ∨ H.bd ≤ b) e 1 v' (l.length + k) (css.flatten ++ List.replicate k (Value.int .i64 0))) (fun a w ha hw => ?_)).mono fun v' H' ⟨k1, k2⟩ => ⟨k1, ⟨css ++ List.replicate k [Value.int .i64 0], ?_, ?_⟩, (fun b hb => (k2.blk b hb).1)⟩
  · obtain ⟨hu', ⟨i, hi, hz, hs, hby⟩, hzc, hp⟩ := ht
    have hown := h2'.owns hw
    obtain ⟨v', w', hrun, ho, hgr, hat⟩ := run_append_own_zeros (P := P) w W.heap.size t tn ty e i kq kn hu' htn hi hz hs hby v l.length css.flatten hown k hm hw.below.size
    obtain ⟨H', g1, g2, g3⟩ := hw.grown hgr (fun b hb => hokW b hb.symm) (fun u hu => by
      rcases List.mem_append.1 hu with h | h
      · exact h2'.one u h
      · rw [List.eq_of_mem_replicate h]; rfl) ho hat
    exact ⟨v', w', H', by simp [execOp, resolve, invoke, builtin, ha.ev hx, ha.ev hy, hrun], g1, g2, g3⟩
  · have hW := hokW
    refine segs_append (h1.imp fun _ _ cs hK => hK) ⟨by simp, fun i z cs hz hc => ?_⟩
    rw [List.getElem?_replicate] at hz hc
    split at hz
    · rw [if_pos (by assumption)] at hc
      cases hz; cases hc; rfl
    · cases hz
  · have e1 : (css ++ List.replicate k [Value.int .i64 0]).flatten = css.flatten ++ List.replicate k (Value.int .i64 0) := by
      rw [List.flatten_append]
      rw [rep_flat]
    rw [e1, List.length_append, List.length_replicate]
    exact k2.ok (fun b hb _ => by
      rcases hb with hb | hb
      · exact .inl (h2.blk b hb).1
      · exact .inr hb)
end
section
variable {P : Program} {W : World} {N : Nat} {E : List (Nat × Value)} {H : Hp} {d : Nat} {ty : TypeId} {pos : String} {af : Array Edge} {gd : Option (Nat × Bool)} {t : TypeId} {x y : Operand} {ok : Nat → Prop} {v : Value} {l : List Int}
/-- The front of length 0 of a row of the call's own: what is behind it is forgotten. -/
theorem WV.cut0 {e : TypeId} {z : Value} {bytes : Nat} {kq : IntKind} (ht : SlT P t e z 1 bytes) (hx : evl E x = some v) (hy : evl E y = some (.int kq 0)) (hv : OwnK kI e W H ok v l) :
    WV P W N E H ⟨some d, .slice t x none (some y) none, ty, pos, af, gd⟩ (fun v' H' => But (fun b => some b = v.ownBlock) H H' ∧ OwnK kI e W H' ok v' ([] : List Int) ∧ ∀ b, some b = v'.ownBlock → some b = v.ownBlock) := by
  obtain ⟨css, h1, h2⟩ := hv
  refine WV.of (fun a w ha hw => ?_)
  rcases h2.at_ with ⟨rfl, h0⟩ | ⟨g, c, rfl, hg, hA, hc, hm⟩
  · have hh := HV.cutH (P := P) (W := W) (H := H) (N := N) (d := d) (ty := ty) (pos := pos) (af := af) (gd := gd) ht hx hy (by decide) (by decide) a w ha hw
    exact ⟨_, w, H, hh, hw, But.refl _ _, OwnK.nil _, fun b hb => hb⟩
  · have hh := HV.cutH (P := P) (W := W) (H := H) (N := N) (d := d) (ty := ty) (pos := pos) (af := af) (gd := gd) ht hx hy (by decide) (by omega) a w ha hw
    have e1 : sliced (some ⟨g, 0, none⟩) 0 (0 : Int).toNat c 1 = .slice (some ⟨g, 0, none⟩) 0 c := by
      unfold sliced
      split <;> simp [add_at]
    rw [e1] at hh
    refine ⟨_, w, ⟨fun b => if b = g then some ⟨e, [], c * kI.sz⟩ else H.m b, H.bd, fun b x hb => ?_⟩, hh, ⟨hw.below, hw.bd, fun b x hb => ?_⟩, ⟨Nat.le_refl _, fun b x hb hn => ?_⟩, ⟨[], ⟨rfl, fun i x cs h => by cases h⟩, ⟨rfl, fun u hu => absurd hu (List.not_mem_nil), .inr ⟨g, c, rfl, hg, ⟨if_pos rfl, hA.w⟩, Nat.zero_le _, hm⟩⟩⟩, fun b hb => hb⟩
    · split at hb
      · rename_i e; rw [e]; exact hA.lt
      · exact H.lt b x hb
    · change (if b = g then some ⟨e, [], c * kI.sz⟩ else H.m b) = some x at hb
      split at hb
      · rename_i e
        subst e
        cases hb
        obtain ⟨i1, cur, i2, i3, i4⟩ := hw.own b _ hA.m
        exact ⟨i1, cur, i2, i3, rfl⟩
      · exact hw.own b x hb
    · show (if b = g then _ else H.m b) = some x
      rw [if_neg (fun e => hn (by rw [e]; rfl))]
      exact hb
theorem flat_offs (l : List (List Int)) : ∀ i : Nat, i ≤ l.length → ((l.take i).flatten.length : Int) = offs l i
  | 0, _ => by simp [offs]
  | i + 1, hi => by
    have e : l.getD i [] = l[i] := by simp [show i < l.length by omega]
    rw [offs_succ (by omega), ← flat_offs l i (by omega), e, List.take_add_one, List.flatten_append]
    simp [show i < l.length by omega]
theorem flat_snoc {l : List (List Int)} {i : Nat} {z : List Int} (hz : l[(i : Int).toNat]? = some z) : (l.take (i + 1)).flatten = (l.take i).flatten ++ z := by
  rw [Int.toNat_natCast] at hz
  rw [List.take_add_one, List.flatten_append, hz]
  simp
end
variable {W : World} {H : Hp}

set_option maxRecDepth 100000 in
theorem cloneI_ok {v : Value} {l : List Int} {ok : Nat → Prop} (hr : RdK kI W H ok v l) (hl : l.length ≤ 1048576) : ACalls Try.prog W 87 #[v] H (fun r H' => Ext H H' ∧ OwnK kI 2 W H' (fun b => H.bd ≤ b) r l) := by
  refine ACalls.of (args := [v]) Try.func87 rfl rfl ?_
  have X0 := Ext.refl H
  have hm1 := hr.max
  refine AW.rs ?_
  refine AL.val rfl (.inl rfl) (HV.as rfl) ?_
  refine AL.nx ?_
  refine AW.seq ?_
  refine AW.rs ?_
  refine AL.val rfl (.inl rfl) (HV.mv rfl) ?_
  refine AL.val rfl (.inl rfl) (HV.nne Try.underlying22 hr.isSl rfl rfl) ?_
  refine AL.nx ?_
  refine AW.cond rfl (fun c2 => ?_) (fun c2 => ?_)
  · -- then
    refine AW.rs ?_
    refine AL.val rfl (.inl rfl) (HV.as rfl) ?_
    refine AL.nx ?_
    refine AW.ret ?_
    refine ret_and ?_
    refine post_one rfl rfl ?_ (.inr rfl)
    exact ⟨X0, by rw [nn_nil hr (by assumption)]; exact OwnK.nil _⟩
  · -- else
    refine AW.skip ?_
    refine nrm_and ?_
    refine AW.rs ?_
    have o3 := X0.bd
    refine AL.w rfl (.inl rfl) (WV.bsK (K := kI) (l := ([] : List Int)) (css := []) sl22 rfl rfl (by first | rfl | (simp [Instr.fill, Value.cells, kI, kB, kU, kU8, kS, Kd.sc]; done) | (simp [Instr.fill, Value.cells, kI, kB, kU, kU8, kS, Kd.sc, rng1, rng2, rng3, rng4, kP])) rfl segs_nil) ?_
    rintro v4 H5 ⟨hx6, ho7⟩
    have X8 := Ext.trans X0 hx6
    refine AL.val rfl (.inl rfl) (HV.mv rfl) ?_
    have X10 := Ext.refl H5
    refine AL.w rfl (.inl rfl) (WV.apk sl22 rfl rfl ho7 (hr.lo.ext X8) (by simp; omega) (by simp; omega) (fun b hb _ e => by have h1 : H.bd ≤ b := (ho7.blk b e).1; have h2 : b < H.bd := hb; have h3 := o3; omega)) ?_
    rintro v11 H12 ⟨hx13, ho14, hb15⟩
    have ho16 := ho14.narrow (ok' := fun b => H.bd ≤ b) kI_flat (fun b q => (hb15 b q).elim (fun e => (ho7.blk b e).1) (fun e => Nat.le_trans X8.bd e))
    have X17 := Ext.thru X8 hx13 (fun b hb => Nat.le_trans o3 (ho7.blk b hb).1)
    refine AL.val rfl (.inl rfl) (HV.as rfl) ?_
    refine AL.nx ?_
    refine AW.ret ?_
    refine post_one rfl rfl ?_ (.inr rfl)
    exact ⟨X17, ho16.okk (fun b hb _ => Nat.le_trans o3 hb)⟩

set_option maxRecDepth 100000 in
theorem l00Own_ok {v : Value} {l : List Int} {ok : Nat → Prop} (hr : RdK kI W H ok v l) (hl : l.length ≤ 1048576) : ACalls Try.prog W 85 #[v] H (fun r H' => Ext H H' ∧ OwnK kI 2 W H' (fun b => H.bd ≤ b) r l) := by
  refine ACalls.of (args := [v]) Try.func85 rfl rfl ?_
  have X0 := Ext.refl H
  have hm1 := hr.max
  refine AW.rs ?_
  refine AL.val rfl (.inl rfl) (HV.as rfl) ?_
  refine AL.nx ?_
  refine AW.rs ?_
  have o2 := X0.bd
  refine AL.w rfl (.inl rfl) (WV.bsK (K := kI) (l := ([] : List Int)) (css := []) sl22 rfl rfl (by first | rfl | (simp [Instr.fill, Value.cells, kI, kB, kU, kU8, kS, Kd.sc]; done) | (simp [Instr.fill, Value.cells, kI, kB, kU, kU8, kS, Kd.sc, rng1, rng2, rng3, rng4, kP])) rfl segs_nil) ?_
  rintro v3 H4 ⟨hx5, ho6⟩
  have X7 := Ext.trans X0 hx5
  refine AL.val rfl (.inl rfl) (HV.mv rfl) ?_
  have X9 := Ext.refl H4
  refine AL.w rfl (.inl rfl) (WV.apk sl22 rfl rfl ho6 (hr.lo.ext X7) (by simp; omega) (by simp; omega) (fun b hb _ e => by have h1 : H.bd ≤ b := (ho6.blk b e).1; have h2 : b < H.bd := hb; have h3 := o2; omega)) ?_
  rintro v10 H11 ⟨hx12, ho13, hb14⟩
  have ho15 := ho13.narrow (ok' := fun b => H.bd ≤ b) kI_flat (fun b q => (hb14 b q).elim (fun e => (ho6.blk b e).1) (fun e => Nat.le_trans X7.bd e))
  have X16 := Ext.thru X7 hx12 (fun b hb => Nat.le_trans o2 (ho6.blk b hb).1)
  refine AL.val rfl (.inl rfl) (HV.as rfl) ?_
  refine AL.nx ?_
  refine AW.ret ?_
  refine post_one rfl rfl ?_ (.inr rfl)
  exact ⟨X16, ho15.okk (fun b hb _ => Nat.le_trans o2 hb)⟩

set_option maxRecDepth 100000 in
theorem grow_ok (n : Int) (hn : 0 ≤ n ∧ n ≤ 1000000000) : ACalls Try.prog W 174 #[(.slice none 0 0), .int .i64 n] H (fun r H' => Ext H H' ∧ OwnK kI 2 W H' (fun b => H.bd ≤ b) r ([] : List Int)) := by
  refine ACalls.of (args := [(.slice none 0 0), .int .i64 n]) Try.func174 rfl rfl ?_
  have X0 := Ext.refl H
  refine AW.rs ?_
  refine AL.val rfl (.inl rfl) (HV.as rfl) ?_
  refine AL.nx ?_
  refine AW.seq ?_
  refine AW.rs ?_
  refine AL.val rfl (.inl rfl) (HV.mv rfl) ?_
  refine AL.val rfl (.inl rfl) (HV.lti rfl rfl) ?_
  refine AL.nx ?_
  refine AW.ifd rfl (fun c1 => ?_) (fun c1 => ?_)
  · -- then
    exfalso; omega
  · -- else
    refine AW.skip ?_
    refine nrm_and ?_
    refine AW.seq ?_
    refine AW.rs ?_
    refine AL.val rfl (.inl rfl) (HV.mv rfl) ?_
    refine AL.val rfl (.inl rfl) (HV.mv rfl) ?_
    refine AL.val rfl (.inl rfl) (HV.cap (A := none) (n := 0) (c := 0) Try.underlying22 rfl) ?_
    refine AL.val rfl (.inl rfl) (HV.mv rfl) ?_
    refine AL.val rfl (.inl rfl) (HV.len Try.underlying22 rfl ⟨none, 0, rfl⟩) ?_
    refine AL.val rfl (.inl rfl) (HV.sub rfl rfl (by omega)) ?_
    refine AL.val rfl (.inl rfl) (HV.sub rfl rfl (by omega)) ?_
    refine AL.val rfl (.inl rfl) (HV.as rfl) ?_
    refine AL.nx ?_
    refine AW.rs ?_
    refine AL.val rfl (.inl rfl) (HV.mv rfl) ?_
    refine AL.val rfl (.inl rfl) (HV.gti rfl rfl) ?_
    refine AL.nx ?_
    refine AW.ifd rfl (fun c2 => ?_) (fun c2 => ?_)
    · -- then
      refine AW.reg ?_
      refine AL.val rfl (.inl rfl) (HV.mv rfl) ?_
      refine AL.val rfl (.inl rfl) (HV.mv rfl) ?_
      refine AL.val rfl (.inl rfl) (HV.cap (A := none) (n := 0) (c := 0) Try.underlying22 rfl) ?_
      refine AL.val rfl (.inl rfl) (HV.cutH (A := none) (n := 0) (c := 0) sl22 rfl rfl (by decide) (by decide)) ?_
      refine AL.val rfl (.inl rfl) (HV.mv rfl) ?_
      have o9 := X0.bd
      refine AL.w rfl (.inl rfl) (WV.apzK (ok := fun b => False) (l := ([] : List Int)) sl22 Try.underlying3 rfl rfl (OwnK.nil _) (by omega) (by simp only [List.length_nil]; omega)) ?_
      rintro v3 H4 ⟨hx5, ho6, hb7⟩
      have hx5_ : Ext H H4 := But.mono hx5 (fun b e => by cases e)
      have X10 := Ext.trans X0 hx5_
      have ho8 := ho6.okk (ok' := fun b => H.bd ≤ b) (fun b hb _ => hb.elim False.elim id)
      refine AL.val rfl (.inl rfl) (HV.mv rfl) ?_
      refine AL.val rfl (.inl rfl) (HV.len Try.underlying22 rfl ⟨none, 0, rfl⟩) ?_
      have X18 := Ext.refl H4
      refine AL.w rfl (.inl rfl) (WV.cut0 sl22 rfl rfl ho8) ?_
      rintro v12 H13 ⟨hx14, ho15, hb16⟩
      have X19 := Ext.thru X10 hx14 (fun b hb => Nat.le_trans o9 (ho8.blk b hb).1)
      refine AL.val rfl (.inl rfl) (HV.as rfl) ?_
      refine AL.nil ?_
      refine nrm_and ?_
      refine AW.rs ?_
      refine AL.val rfl (.inl rfl) (HV.mv rfl) ?_
      refine AL.val rfl (.inl rfl) (HV.as rfl) ?_
      refine AL.nx ?_
      refine AW.ret ?_
      refine post_one rfl rfl ?_ (.inr rfl)
      exact ⟨X19, ho15.okk (fun b hb _ => Nat.le_trans o9 hb)⟩
    · -- else
      refine AW.skip ?_
      refine nrm_and ?_
      refine AW.rs ?_
      refine AL.val rfl (.inl rfl) (HV.mv rfl) ?_
      refine AL.val rfl (.inl rfl) (HV.as rfl) ?_
      refine AL.nx ?_
      refine AW.ret ?_
      refine post_one rfl rfl ?_ (.inr rfl)
      exact ⟨X0, OwnK.nil _⟩

set_option maxRecDepth 100000 in
theorem concat_ok {v : Value} {ll : List (List Int)} {ok : Nat → Prop} (hr : RdK (kR kI) W H ok v ll) (hl : ll.length ≤ 100) (hx : ∀ x ∈ ll, x.length ≤ 1048576) : ACalls Try.prog W 129 #[v] H (fun r H' => Ext H H' ∧ OwnK kI 2 W H' (fun b => H.bd ≤ b) r ll.flatten) := by
  refine ACalls.of (args := [v]) Try.func129 rfl rfl ?_
  have X0 := Ext.refl H
  have hm1 := hr.max
  have hmx := hr.max
  refine AW.rs ?_
  refine AL.val rfl (.inl rfl) (HV.as rfl) ?_
  refine AL.nx ?_
  refine AW.rs ?_
  refine AL.val rfl (.inl rfl) (HV.as rfl) ?_
  refine AL.nx ?_
  refine AW.seq ?_
  refine AW.rs ?_
  refine AL.val rfl (.inl rfl) (HV.mv rfl) ?_
  refine AL.val rfl (.inl rfl) (HV.len Try.underlying23 rfl hr.isSl) ?_
  refine AL.val rfl (.inl rfl) (HV.mv rfl) ?_
  refine AL.nx ?_
  refine AW.block ?_
  refine AW.loop (σ := Nat × Int) (fun ⟨i, s⟩ => [(0, v), (2, (.slice none 0 0)), (9, v), (10, .int .i64 (ll.length : Int)), (3, .int .i64 s), (11, .int .i64 (i : Int))]) (fun ⟨i, s⟩ H' => Ext H H' ∧ i ≤ ll.length ∧ s = offs ll i ∧ True) (fun ⟨i, s⟩ => ll.length - i) (0, 0) ⟨X0, Nat.zero_le _, rfl, trivial⟩ ⟨rfl, rfl, rfl, rfl, rfl, rfl, trivial⟩ ?_
  rintro ⟨i, s⟩ H2 ⟨X3, hi, hs, _⟩
  have hl0 := offs_le (B := 1048576) hx i hi
  refine AW.rs ?_
  refine AL.val rfl (.inl rfl) (HV.lti rfl rfl) ?_
  refine AL.nx ?_
  refine AW.seq ?_
  refine AW.ifd rfl (fun c4 => ?_) (fun c4 => ?_)
  · -- then
    refine AW.skip ?_
    refine nrm_and ?_
    refine AW.seq ?_
    refine AW.block ?_
    refine AW.rs ?_
    obtain ⟨p5, z6, cs7, hz8, hK9, hC10, hP11⟩ := RdK.ix (q := (i : Int)) hr sl23 (by omega) (by omega)
    obtain ⟨v12, rfl, hr13⟩ := hK9
    have hm14 := hr13.max
    refine AL.val rfl (.inl rfl) (hP11 rfl rfl) ?_
    refine AL.val rfl (.inl rfl) (HV.ld rfl va22 (cells_first (hC10.ext X3) rfl)) ?_
    refine AL.val rfl (.inl rfl) (HV.as rfl) ?_
    refine AL.nx ?_
    refine AW.rs ?_
    refine AL.val rfl (.inl rfl) (HV.mv rfl) ?_
    refine AL.val rfl (.inl rfl) (HV.mv rfl) ?_
    refine AL.val rfl (.inl rfl) (HV.len Try.underlying22 rfl hr13.isSl) ?_
    have hl1 := offs_succ (l := ll) (i := i) (by omega)
    rw [(gd hz8 rfl : ll.getD i [] = z6)] at hl1
    have hl2 := offs_le (B := 1048576) hx (i + 1) (by omega)
    refine AL.val rfl (.inl rfl) (HV.add rfl rfl (by omega)) ?_
    refine AL.val rfl (.inl rfl) (HV.as rfl) ?_
    refine AL.nx ?_
    refine AW.rs ?_
    refine AL.val rfl (.inl rfl) (HV.mv rfl) ?_
    refine AL.val rfl (.inl rfl) (HV.lti rfl rfl) ?_
    refine AL.nx ?_
    refine AW.ifd rfl (fun c15 => ?_) (fun c15 => ?_)
    · -- then
      exfalso; omega
    · -- else
      refine AW.skip ?_
      refine nrm_blk (nrm_and ?_)
      refine AW.reg ?_
      refine AL.val rfl (.inl rfl) (HV.add rfl rfl (by omega)) ?_
      refine AL.val rfl (.inl rfl) (HV.mv rfl) ?_
      refine AL.nil ?_
      refine nrm_and ?_
      exact ⟨(i + 1, s + (z6.length : Int)), ⟨X3, by omega, by omega, trivial⟩, by first | omega | (dsimp only; omega), ⟨rfl, rfl, rfl, rfl, rfl, rfl, trivial⟩⟩
  · -- else
    refine AW.exit ?_
    refine ex_and (ex_and (ex_blk ?_))
    refine nrm_and ?_
    refine AW.rs ?_
    refine AL.val rfl (.inl rfl) (HV.mv rfl) ?_
    have X16 := Ext.refl H2
    have o17 := X3.bd
    have o18 := X16.bd
    refine AL.w rfl (.inl rfl) (WV.call fn174 rfl (grow_ok (W := W) s (by omega))) ?_
    rintro v19 H20 ⟨hx21, ho22⟩
    have X23 := Ext.trans X3 hx21
    have X24 := Ext.trans X16 hx21
    refine AL.val rfl (.inl rfl) (HV.as rfl) ?_
    refine AL.nx ?_
    refine AW.seq ?_
    refine AW.rs ?_
    refine AL.val rfl (.inl rfl) (HV.mv rfl) ?_
    refine AL.val rfl (.inl rfl) (HV.len Try.underlying23 rfl hr.isSl) ?_
    refine AL.val rfl (.inl rfl) (HV.mv rfl) ?_
    refine AL.nx ?_
    refine AW.block ?_
    refine AW.loop (σ := Nat × Value) (fun ⟨j, vr⟩ => [(2, (.slice none 0 0)), (25, v), (26, .int .i64 (ll.length : Int)), (6, vr), (27, .int .i64 (j : Int))]) (fun ⟨j, vr⟩ H' => Ext H H' ∧ Ext H2 H' ∧ j ≤ ll.length ∧ OwnK kI 2 W H' (fun b => H2.bd ≤ b) vr ((ll.take j).flatten) ∧ True) (fun ⟨j, vr⟩ => ll.length - j) (0, v19) ⟨X23, X24, Nat.zero_le _, ho22, trivial⟩ ⟨rfl, rfl, rfl, rfl, rfl, trivial⟩ ?_
    rintro ⟨j, vr⟩ H26 ⟨X27, X28, hj, hoR, _⟩
    have hl3 := flat_offs ll j hj
    have hl4 := offs_le (B := 1048576) hx j hj
    refine AW.rs ?_
    refine AL.val rfl (.inl rfl) (HV.lti rfl rfl) ?_
    refine AL.nx ?_
    refine AW.seq ?_
    refine AW.ifd rfl (fun c29 => ?_) (fun c29 => ?_)
    · -- then
      refine AW.skip ?_
      refine nrm_and ?_
      refine AW.seq ?_
      refine AW.block ?_
      refine AW.rs ?_
      obtain ⟨p30, z31, cs32, hz33, hK34, hC35, hP36⟩ := RdK.ix (q := (j : Int)) hr sl23 (by omega) (by omega)
      obtain ⟨v37, rfl, hr38⟩ := hK34
      have hm39 := hr38.max
      refine AL.val rfl (.inl rfl) (hP36 rfl rfl) ?_
      refine AL.val rfl (.inl rfl) (HV.ld rfl va22 (cells_first (hC35.ext X27) rfl)) ?_
      refine AL.val rfl (.inl rfl) (HV.as rfl) ?_
      refine AL.nx ?_
      refine AW.reg ?_
      refine AL.val rfl (.inl rfl) (HV.mv rfl) ?_
      refine AL.val rfl (.inl rfl) (HV.mv rfl) ?_
      have hl5 := hx _ (List.mem_of_getElem? hz33)
      have X40 := Ext.refl H26
      refine AL.w rfl (.inl rfl) (WV.apk sl22 rfl rfl hoR (hr38.lo.ext X27) (by omega) (by omega) (fun b hb _ e => by have h1 : H2.bd ≤ b := (hoR.blk b e).1; have h2 : b < H.bd := hb; have h3 := o17; omega)) ?_
      rintro v41 H42 ⟨hx43, ho44, hb45⟩
      have ho46 := ho44.narrow (ok' := fun b => H2.bd ≤ b) kI_flat (fun b q => (hb45 b q).elim (fun e => (hoR.blk b e).1) (fun e => Nat.le_trans X28.bd e))
      have X47 := Ext.thru X27 hx43 (fun b hb => Nat.le_trans o17 (hoR.blk b hb).1)
      have X48 := Ext.thru X28 hx43 (fun b hb => Nat.le_trans o18 (hoR.blk b hb).1)
      refine AL.val rfl (.inl rfl) (HV.as rfl) ?_
      refine AL.nil ?_
      refine nrm_blk (nrm_and ?_)
      refine AW.reg ?_
      refine AL.val rfl (.inl rfl) (HV.add rfl rfl (by omega)) ?_
      refine AL.val rfl (.inl rfl) (HV.mv rfl) ?_
      refine AL.nil ?_
      refine nrm_and ?_
      exact ⟨(j + 1, v41), ⟨X47, X48, by omega, by rw [flat_snoc hz33]; exact ho46, trivial⟩, by first | omega | (dsimp only; omega), ⟨rfl, rfl, rfl, rfl, rfl, trivial⟩⟩
    · -- else
      refine AW.exit ?_
      refine ex_and (ex_and (ex_blk ?_))
      refine nrm_and ?_
      refine AW.rs ?_
      refine AL.val rfl (.inl rfl) (HV.mv rfl) ?_
      refine AL.val rfl (.inl rfl) (HV.as rfl) ?_
      refine AL.nx ?_
      refine AW.ret ?_
      refine post_one rfl rfl ?_ (.inr rfl)
      exact ⟨X27, by rw [show ll.flatten = (ll.take j).flatten by rw [List.take_of_length_le (by omega)]]; exact hoR.okk (fun b hb _ => Nat.le_trans o17 hb)⟩
end Go.Proofs.Yticobjbjejpomaa.VC
