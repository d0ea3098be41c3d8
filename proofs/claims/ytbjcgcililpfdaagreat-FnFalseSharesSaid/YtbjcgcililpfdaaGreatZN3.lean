/- Walks. -/
import Derived.Test.YtbjcgcililpfdaaGreatZN2
set_option linter.unusedVariables false
set_option linter.unusedSimpArgs false
namespace Go.Proofs.YtbjcgcililpfdaaGreat.VC
open Go Go.RowKit
variable {W : World} {H : Hp}

open VI (addAt mulAt mulLin mulLin_length mulLin_getD skipFold skipFold_cons byS byAt thrFrom throughM addC stripM)
/-! ### The reference's curve through points, as it is made -/
theorem skip_snoc {α β : Type} (f : β → α → β) (i : Nat) (x : α) : ∀ (l : List α) (k : Nat) (b : β), skipFold f i k (l ++ [x]) b = if k + l.length = i then skipFold f i k l b else f (skipFold f i k l b) x
  | [], k, b => by simp only [List.nil_append, List.length_nil, Nat.add_zero]; rfl
  | y :: l, k, b => by
    rw [List.cons_append, skipFold_cons, skipFold_cons, skip_snoc f i x l (k + 1), List.length_cons]
    generalize (if k = i then b else f b y) = b'
    by_cases h : k + 1 + l.length = i
    · rw [if_pos h, if_pos (by omega)]
    · rw [if_neg h, if_neg (by omega)]
theorem thr_snoc (p : Int) (P V : List Int) : ∀ (d i : Nat) (o : List Int), thrFrom p P V (d + 1) i o = addC p (byAt p P V (i + d)) (thrFrom p P V d i o) (VI.partAt p P (i + d))
  | 0, i, o => rfl
  | d + 1, i, o => by
    show thrFrom p P V (d + 1) (i + 1) _ = _
    rw [thr_snoc p P V d (i + 1), show i + 1 + d = i + (d + 1) by omega]
    rfl
def thO (p : Int) (P V : List Int) (i : Nat) : List Int := thrFrom p P V i 0 []
def thK (p : Int) (P : List Int) (i k : Nat) : List Int := skipFold (mulLin p) i 0 (P.take k) [1]
def thB (p : Int) (P V : List Int) (i k : Nat) : Int := skipFold (byS p (P.getD i 0)) i 0 (P.take k) (V.getD i 0)
theorem tk1 {α : Type} {l : List α} {i : Nat} {z : α} (h : l[i]? = some z) : l.take (i + 1) = l.take i ++ [z] := by
  obtain ⟨hi, rfl⟩ := List.getElem?_eq_some_iff.1 h
  exact List.take_succ_eq_append_getElem hi
theorem thO_succ (p : Int) (P V : List Int) (i : Nat) : thO p P V (i + 1) = addC p (thB p P V i P.length) (thO p P V i) (thK p P i P.length) := by
  unfold thO thB thK
  rw [thr_snoc, Nat.zero_add, List.take_length]
  rfl
theorem thK_y {p : Int} {P : List Int} {i k : Nat} {z : Int} (h : P[k]? = some z) (e : k = i) : thK p P i (k + 1) = thK p P i k := by
  unfold thK
  rw [tk1 h, skip_snoc, if_pos (by have := (List.getElem?_eq_some_iff.1 h).1; simp only [List.length_take]; omega)]
theorem thK_n {p : Int} {P : List Int} {i k : Nat} {z : Int} (h : P[k]? = some z) (e : ¬ k = i) : thK p P i (k + 1) = mulLin p (thK p P i k) z := by
  unfold thK
  rw [tk1 h, skip_snoc, if_neg (by have := (List.getElem?_eq_some_iff.1 h).1; simp only [List.length_take]; omega)]
theorem thB_y {p : Int} {P V : List Int} {i k : Nat} {z : Int} (h : P[k]? = some z) (e : k = i) : thB p P V i (k + 1) = thB p P V i k := by
  unfold thB
  rw [tk1 h, skip_snoc, if_pos (by have := (List.getElem?_eq_some_iff.1 h).1; simp only [List.length_take]; omega)]
theorem thB_n {p : Int} {P V : List Int} {i k : Nat} {z : Int} (h : P[k]? = some z) (e : ¬ k = i) : thB p P V i (k + 1) = (thB p P V i k * invM p ((P.getD i 0 - z) % p)) % p := by
  unfold thB
  rw [tk1 h, skip_snoc, if_neg (by have := (List.getElem?_eq_some_iff.1 h).1; simp only [List.length_take]; omega)]
  rfl
theorem thK_len (p : Int) (P : List Int) (i k : Nat) : (thK p P i k).length ≤ k + 1 := by
  have h := VI.part_len p i (P.take k) 0 [1]
  simp only [List.length_take, List.length_singleton] at h
  unfold thK; omega
theorem thO_len (p : Int) (P V : List Int) (i : Nat) : (thO p P V i).length ≤ P.length + 1 := VI.thr_len p P V i 0 [] (Nat.zero_le _)
theorem skip_in {p : Int} (hp : 2 ≤ p) (i : Nat) : ∀ (l : List Int) (k : Nat) (c : List Int), elems p c → elems p (skipFold (mulLin p) i k l c)
  | [], _, c, h => h
  | y :: l, k, c, h => by
    rw [skipFold_cons]
    refine skip_in hp i l (k + 1) _ ?_
    split
    · exact h
    · intro m hm
      rw [mulLin_length] at hm
      rw [mulLin_getD _ _ _ _ hm]
      have := emod_bd (show 0 < p by omega) ((if m = 0 then 0 else c.getD (m - 1) 0) + c.getD m 0 * ((-y) % p))
      unfold mulAt; omega
theorem thK_in {p : Int} (hp : 2 ≤ p) (P : List Int) (i k : Nat) : elems p (thK p P i k) := skip_in hp i _ _ _ (fun m hm => by
  rw [List.length_singleton] at hm
  rw [show m = 0 by omega]
  show (0 : Int) ≤ 1 ∧ (1 : Int) ≤ p - 1
  omega)
theorem skipB_in {p xi : Int} (hp : 2 ≤ p) (i : Nat) : ∀ (l : List Int) (k : Nat) (b : Int), 0 ≤ b ∧ b ≤ p - 1 → 0 ≤ skipFold (byS p xi) i k l b ∧ skipFold (byS p xi) i k l b ≤ p - 1
  | [], _, b, h => h
  | y :: l, k, b, h => by
    rw [skipFold_cons]
    refine skipB_in hp i l (k + 1) _ ?_
    split
    · exact h
    · have := emod_bd (show 0 < p by omega) (b * invM p ((xi - y) % p))
      unfold byS; omega
theorem thB_in {p : Int} (hp : 2 ≤ p) (P : List Int) {V : List Int} (hV : elems p V) (i k : Nat) : 0 ≤ thB p P V i k ∧ thB p P V i k ≤ p - 1 := skipB_in hp i _ _ _ (by have := getD_in hV (show 0 < p by omega) i; omega)
theorem thO_in {p : Int} (hp : 2 ≤ p) (P V : List Int) : ∀ i, elems p (thO p P V i)
  | 0 => fun q hq => absurd hq (Nat.not_lt_zero _)
  | i + 1 => by rw [thO_succ]; exact addC_in (by omega) _ _ _
/-- A product by a linear factor, half made. -/
def nxF (p x : Int) (c : List Int) (j m : Nat) : Int := if m < j then mulAt p x c m else if m = j then (if m = 0 then 0 else c.getD (m - 1) 0) else 0
def nxL (p x : Int) (c : List Int) (j : Nat) : List Int := (List.range (c.length + 1)).map (nxF p x c j)
theorem nxL_len (p x : Int) (c : List Int) (j : Nat) : (nxL p x c j).length = c.length + 1 := by simp [nxL]
theorem nxL_at {p x : Int} {c : List Int} {j m : Nat} {z : Int} (h : (nxL p x c j)[m]? = some z) : z = nxF p x c j m := by
  unfold nxL at h
  rw [List.getElem?_map] at h
  cases e : (List.range (c.length + 1))[m]? with
  | none => rw [e] at h; cases h
  | some q =>
    rw [e] at h
    cases h
    obtain ⟨h1, h2⟩ := List.getElem?_eq_some_iff.1 e
    rw [← h2, List.getElem_range]
theorem nxL_zero (p x : Int) (c : List Int) : List.replicate (c.length + 1) (0 : Int) = nxL p x c 0 := by
  refine list_eq (d := 0) (by rw [nxL_len]; simp) (fun j hj => ?_)
  rw [List.length_replicate] at hj
  have e1 : (List.replicate (c.length + 1) (0 : Int)).getD j 0 = 0 := by simp [List.getD_eq_getElem?_getD, List.getElem?_replicate]; split <;> rfl
  rw [e1]
  unfold nxL
  rw [show ((List.range (c.length + 1)).map (nxF p x c 0)).getD j 0 = nxF p x c 0 j by simp [hj]]
  unfold nxF
  rw [if_neg (by omega)]
  split
  · rename_i h; simp [h]
  · rfl
theorem gset_ne {k : List Int} {i s : Nat} {b : Int} (h : s ≠ i) : (k.set i b).getD s 0 = k.getD s 0 := by
  rw [List.getD_eq_getElem?_getD, List.getD_eq_getElem?_getD, List.getElem?_set_ne (by omega)]
theorem nx_a {p x : Int} {c : List Int} {j : Nat} {q z : Int} (e : q = (j : Int) + 1) (h : (nxL p x c j)[q.toNat]? = some z) : z = 0 := by
  rw [show q.toNat = j + 1 by omega] at h
  rw [nxL_at h]
  unfold nxF
  rw [if_neg (by omega), if_neg (by omega)]
theorem nx_b {p x : Int} {c : List Int} {j : Nat} {q q2 v z : Int} (e : q = (j : Int) + 1) (e2 : q2 = (j : Int)) (h : ((nxL p x c j).set q.toNat v)[q2.toNat]? = some z) : z = if j = 0 then 0 else c.getD (j - 1) 0 := by
  rw [show q.toNat = j + 1 by omega, show q2.toNat = j by omega, List.getElem?_set_ne (by omega)] at h
  rw [nxL_at h]
  unfold nxF
  rw [if_neg (by omega), if_pos rfl]
theorem nxL_step {p x : Int} {c : List Int} {j : Nat} {a q1 q2 z1 z2 : Int} (hp : 0 < p) (hc : elems p c) (hj : c[j]? = some a) (h1 : q1 = (j : Int) + 1) (h2 : q2 = (j : Int)) (hz1 : z1 = 0) (hz2 : z2 = if j = 0 then 0 else c.getD (j - 1) 0) : ((nxL p x c j).set q1.toNat ((z1 + a) % p)).set q2.toNat ((z2 + a * ((-x) % p)) % p) = nxL p x c (j + 1) := by
  obtain ⟨hl, e⟩ := List.getElem?_eq_some_iff.1 hj
  have ha : c.getD j 0 = a := by simp [hl, e]
  have ab := getD_in hc hp j
  rw [ha] at ab
  rw [show q1.toNat = j + 1 by omega, show q2.toNat = j by omega, hz1, hz2]
  refine list_eq (d := 0) (by simp [nxL]) (fun m hm => ?_)
  simp only [List.length_set, nxL_len] at hm
  have e2 : ∀ q, (nxL p x c q).getD m 0 = nxF p x c q m := fun q => by unfold nxL; simp [hm]
  rw [e2]
  by_cases g1 : m = j
  · subst g1
    rw [List.getD_eq_getElem?_getD, List.getElem?_set_self (by rw [List.length_set, nxL_len]; omega), Option.getD_some]
    unfold nxF mulAt
    rw [ha]
    simp
  · rw [gset_ne g1]
    by_cases g2 : m = j + 1
    · subst g2
      rw [List.getD_eq_getElem?_getD, List.getElem?_set_self (by rw [nxL_len]; omega), Option.getD_some]
      unfold nxF
      rw [if_neg (by omega), if_pos rfl, if_neg (by omega), Nat.add_sub_cancel, ha, Int.zero_add, Int.emod_eq_of_lt ab.1 (by omega)]
    · rw [gset_ne g2, e2]
      unfold nxF
      by_cases g3 : m < j
      · rw [if_pos g3, if_pos (by omega)]
      · rw [if_neg g3, if_neg g1, if_neg (by omega), if_neg g2]
theorem nxL_end {p x : Int} {c : List Int} (hp : 0 < p) (hc : elems p c) : nxL p x c c.length = mulLin p c x := by
  unfold nxL mulLin
  refine List.map_congr_left fun m hm => ?_
  have hm := List.mem_range.1 hm
  unfold nxF
  by_cases h : m < c.length
  · rw [if_pos h]
  · have e : m = c.length := by omega
    rw [if_neg h, if_pos e]
    unfold mulAt
    have b := getD_in hc hp (m - 1)
    rw [getD_ge (show ¬ m < c.length by omega), Int.zero_mul, Int.add_zero]
    split
    · rw [Int.zero_emod]
    · rw [Int.emod_eq_of_lt (by omega) (by omega)]
theorem invM_in {p : Int} (hp : 2 ≤ p) (a : Int) : 0 ≤ invM p a ∧ invM p a < p := by
  unfold invM
  generalize hf : List.find? (fun x => decide (a * x % p = 1 ∧ 0 < x ∧ x < p)) ((List.range 31).map (fun n : Nat => (n : Int))) = o
  cases o with
  | none => exact ⟨Int.le_refl _, by show (0 : Int) < p; omega⟩
  | some x =>
    have h0 := List.find?_some hf
    have h := of_decide_eq_true h0
    exact ⟨by show 0 ≤ x; omega, h.2.2⟩
set_option maxRecDepth 100000 in
theorem pad_ok {va vb : Value} {la lb : List Int} {ok ok2 : Nat → Prop} {p : Int} (hr : RdK kI W H ok va la) (hr2 : RdK kI W H ok2 vb lb) (t : Int) (hp : 2 ≤ p ∧ p ≤ 31) (ht : 0 ≤ t ∧ t ≤ p - 1) (hla : elems p la) (hlb : elems p lb) (hl : la.length ≤ 1000 ∧ lb.length ≤ 1000) : ACalls Tryz.prog W 101 #[.int .i64 p, va, vb, .int .i64 t] H (fun r H' => Ext H H' ∧ OwnK kI 2 W H' (fun b => H.bd ≤ b) r (addC p t la lb)) := by
  refine ACalls.of (args := [.int .i64 p, va, vb, .int .i64 t]) Tryz.func101 rfl rfl ?_
  have X0 := Ext.refl H
  have hm1 := hr.max
  have hm2 := hr2.max
  refine AW.rs ?_
  refine AL.val rfl (.inl rfl) (HV.as rfl) ?_
  refine AL.nx ?_
  refine AW.rs ?_
  refine AL.val rfl (.inl rfl) (HV.mv rfl) ?_
  have o3 := X0.bd
  refine AL.w rfl (.inl rfl) (WV.call fn38 rfl (l00Own_ok hr (by omega))) ?_
  rintro v4 H5 ⟨hx6, ho7⟩
  have X8 := Ext.trans X0 hx6
  refine AL.val rfl (.inl rfl) (HV.as rfl) ?_
  refine AL.nx ?_
  refine AW.seq ?_
  refine AW.rs ?_
  refine AL.val rfl (.inl rfl) (HV.as rfl) ?_
  refine AL.nx ?_
  refine AW.block ?_
  refine AW.loop (σ := Nat × Value × List Int) (fun ⟨i, vv, k⟩ => [(0, .int .i64 p), (2, vb), (3, .int .i64 t), (8, (.slice none 0 0)), (9, vv), (10, .int .i64 (i : Int))]) (fun ⟨i, vv, k⟩ H' => Ext H H' ∧ i ≤ lb.length ∧ k = (sumT p t la lb i) ∧ k.length = max la.length i ∧ OwnK kI 2 W H' (fun b => H.bd ≤ b) vv k ∧ True) (fun ⟨i, vv, k⟩ => lb.length - i) (0, v4, la) ⟨X8, Nat.zero_le _, (sumT_zero _ _ _ _).symm, by omega, ho7, trivial⟩ ⟨rfl, rfl, rfl, rfl, rfl, rfl, trivial⟩ ?_
  rintro ⟨i, vv, k⟩ H10 ⟨X11, hi, hk, hk2, hoL, _⟩
  refine AW.seq ?_
  refine AW.rs ?_
  refine AL.val rfl (.inl rfl) (HV.mv rfl) ?_
  refine AL.val rfl (.inl rfl) (HV.mv rfl) ?_
  refine AL.val rfl (.inl rfl) (HV.len Tryz.underlying25 rfl hr2.isSl) ?_
  refine AL.val rfl (.inl rfl) (HV.lti rfl rfl) ?_
  refine AL.nx ?_
  refine AW.ifd rfl (fun c12 => ?_) (fun c12 => ?_)
  · -- then
    refine AW.skip ?_
    refine nrm_and ?_
    refine AW.seq ?_
    refine AW.block ?_
    refine AW.seq ?_
    refine AW.rs ?_
    refine AL.val rfl (.inl rfl) (HV.mv rfl) ?_
    refine AL.val rfl (.inl rfl) (HV.mv rfl) ?_
    refine AL.val rfl (.inl rfl) (HV.len Tryz.underlying25 rfl hoL.rd.isSl) ?_
    refine AL.val rfl (.inl rfl) (HV.eqi rfl rfl) ?_
    refine AL.nx ?_
    refine AW.ifd rfl (fun c13 => ?_) (fun c13 => ?_)
    · -- then
      refine AW.reg ?_
      refine AL.val rfl (.inl rfl) (HV.mv rfl) ?_
      have X14 := Ext.refl H10
      have o15 := X11.bd
      have o16 := X14.bd
      have a17 := hoL.ltb
      refine AL.w rfl (.inl rfl) (WV.bsK (K := kI) (l := ([0] : List Int)) (css := [[.int .i64 0]]) sl25 rfl rfl (by first | rfl | (simp [Instr.fill, Value.cells, kI, kB, kU, kU8, kS, Kd.sc]; done) | (simp [Instr.fill, Value.cells, kI, kB, kU, kU8, kS, Kd.sc, rng1, rng2, rng3, rng4, kP])) rfl (segs_cons rfl segs_nil)) ?_
      rintro v18 H19 ⟨hx20, ho21⟩
      have X22 := Ext.trans X11 hx20
      have X23 := Ext.trans X14 hx20
      have ho24 := hoL.ext hx20
      have X26 := Ext.refl H19
      refine AL.w rfl (.inl rfl) (WV.apk sl25 rfl rfl ho24 ho21.rd (by simp; omega) (by simp; omega) (fun b hb _ e => Nat.lt_irrefl _ (Nat.lt_of_lt_of_le (a17 b e) hb))) ?_
      rintro v27 H28 ⟨hx29, ho30, hb31⟩
      have ho32 := ho30.narrow (ok' := fun b => H.bd ≤ b) kI_flat (fun b q => (hb31 b q).elim (fun e => (ho24.blk b e).1) (fun e => Nat.le_trans X22.bd e))
      have X33 := Ext.thru X22 hx29 (fun b hb => Nat.le_trans o3 (ho24.blk b hb).1)
      refine AL.val rfl (.inl rfl) (HV.as rfl) ?_
      refine AL.nil ?_
      refine nrm_and ?_
      refine AW.draw' [0, 0, 0, 0, 12, 28, 0, 0, 192, 448, 0, 1984, 4092, 0, 16380, 32767, 65535] mixed (by rfl) ?_
      refine Dr.read 0 _ 26 _ rfl rfl rfl rfl rfl (RV.of (by intro _ _ h; cases h) (.inl rfl) (fun _ xd => HV.mv rfl)) ?_
      refine Dr.read 1 _ 27 _ rfl rfl rfl rfl rfl (RV.of (by intro _ _ h; cases h) (.inl rfl) (fun _ xd => HV.mv rfl)) ?_
      refine Dr.read 2 _ 28 _ rfl rfl rfl rfl rfl (RV.of (by intro _ _ h; cases h) (.inl rfl) (fun _ xd => HV.mv rfl)) ?_
      refine Dr.read 3 _ 29 _ rfl rfl rfl rfl rfl (RV.of (by intro _ _ h; cases h) (.inl rfl) (fun _ xd => HV.mv rfl)) ?_
      obtain ⟨g37, z38, cs39, hz40, hK41, hC42, hg43, hP44⟩ := OwnK.ix (q := (i : Int)) ho32 sl25 (by omega) (by first | omega | (simp only [List.length_append, List.length_singleton]; omega))
      have X45 := Ext.refl H28
      obtain rfl : cs39 = [.int .i64 z38] := hK41
      refine Dr.read 4 _ 30 _ rfl rfl rfl rfl rfl (RV.of (by intro _ _ h; cases h) (.inl rfl) (fun _ xd => hP44 rfl rfl)) ?_
      refine Dr.read 5 _ 31 _ rfl rfl rfl rfl rfl (RV.of (by intro _ _ h; cases h) (.inl rfl) (fun _ xd => HV.ld rfl va2 (rdc_ext xd (cells_first hC42 rfl)))) ?_
      refine Dr.read 6 _ 32 _ rfl rfl rfl rfl rfl (RV.of (by intro _ _ h; cases h) (.inl rfl) (fun _ xd => HV.mv rfl)) ?_
      refine Dr.read 7 _ 33 _ rfl rfl rfl rfl rfl (RV.of (by intro _ _ h; cases h) (.inl rfl) (fun _ xd => HV.mv rfl)) ?_
      obtain ⟨p46, z47, cs48, hz49, hK50, hC51, hP52⟩ := RdK.ix (q := (i : Int)) hr2 sl25 (by omega) (by omega)
      obtain rfl : cs48 = [.int .i64 z47] := hK50
      refine Dr.read 8 _ 34 _ rfl rfl rfl rfl rfl (RV.of (by intro _ _ h; cases h) (.inl rfl) (fun _ xd => hP52 rfl rfl)) ?_
      refine Dr.read 9 _ 35 _ rfl rfl rfl rfl rfl (RV.of (by intro _ _ h; cases h) (.inl rfl) (fun _ xd => HV.ld rfl va2 (rdc_ext xd (cells_first (hC51.ext X33) rfl)))) ?_
      refine Dr.read 10 _ 36 _ rfl rfl rfl rfl rfl (RV.of (by intro _ _ h; cases h) (.inl rfl) (fun _ xd => HV.mv rfl)) ?_
      have e30 : z38 = la.getD i 0 := sumT_app (p := p) (t := t) (la := la) (lb := lb) (by rw [← hk]; omega) (by rw [← hk]; exact hz40)
      have b30 := getD_in hla (show 0 < p by omega) i
      have b34 := elem_at hlb hz49
      have q37 := mul31 (a := z47) (b := t) (by omega) (by omega) (by omega) (by omega)
      refine Dr.read 11 _ 37 _ rfl rfl rfl rfl rfl (RV.of (by intro _ _ h; cases h) (.inl rfl) (fun _ xd => HV.mul rfl rfl (by omega))) ?_
      refine Dr.read 12 _ 38 _ rfl rfl rfl rfl rfl (RV.of (by intro _ _ h; cases h) (.inl rfl) (fun _ xd => HV.add rfl rfl (by omega))) ?_
      refine Dr.read 13 _ 39 _ rfl rfl rfl rfl rfl (RV.of (by intro _ _ h; cases h) (.inl rfl) (fun _ xd => HV.mv rfl)) ?_
      refine Dr.read 14 _ 40 _ rfl rfl rfl rfl rfl (RV.of (by intro _ _ h; cases h) (.inl rfl) (fun _ xd => HV.rem rfl rfl (by omega))) ?_
      obtain ⟨g53, z54, cs55, hz56, hK57, hC58, hg59, hP60⟩ := OwnK.ix (q := (i : Int)) ho32 sl25 (by omega) (by first | omega | (simp only [List.length_append, List.length_singleton]; omega))
      obtain rfl : cs55 = [.int .i64 z54] := hK57
      refine Dr.read 15 _ 41 _ rfl rfl rfl rfl rfl (RV.of (by intro _ _ h; cases h) (.inl rfl) (fun _ xd => hP60 rfl rfl)) ?_
      refine Dr.eff 16 _ _ rfl (by intro d h; cases h) rfl rfl rfl (EC.of (by intro _ _ h; cases h) (.inl rfl) (WV.stK (okx := fun _ => False) (x' := (z38 + (z47 * t)) % p) ho32 hg59 rfl rfl va2 (by first | omega | (simp only [List.length_append, List.length_singleton]; omega)) rfl (fun _ h => h.elim))) (fun v H' h => .inr (.inl rfl)) ?_
      rintro _ H61 ⟨hx62, ho63⟩
      have X64 := Ext.thru X33 hx62 (fun b hb => Nat.le_trans o3 (ho32.blk b hb).1)
      have ho66 := ho63.okk (ok' := fun b => H.bd ≤ b) (fun b hb _ => hb.elim id False.elim)
      refine Dr.fin rfl ?_
      refine nrm_blk (nrm_and ?_)
      refine AW.reg ?_
      refine AL.val rfl (.inl rfl) (HV.mv rfl) ?_
      refine AL.val rfl (.inl rfl) (HV.add rfl rfl (by omega)) ?_
      refine AL.val rfl (.inl rfl) (HV.as rfl) ?_
      refine AL.nil ?_
      refine nrm_and ?_
      exact ⟨(i + 1, v27, ((k ++ (([0] : List Int) : List Int)).set ((i : Int) : Int).toNat ((z38 + (z47 * t)) % p))), ⟨X64, by omega, by rw [hk]; exact sumT_set2 (by rw [← hk]; omega) (by unfold addAt; rw [e30, (gd hz49 rfl : lb.getD i 0 = z47)]), by first | (simp only [List.length_set, List.length_append, List.length_singleton]; omega), ho66, trivial⟩, by first | omega | (dsimp only; omega), ⟨rfl, rfl, rfl, rfl, rfl, rfl, trivial⟩⟩
    · -- else
      refine AW.skip ?_
      refine nrm_and ?_
      refine AW.draw' [0, 0, 0, 0, 12, 28, 0, 0, 192, 448, 0, 1984, 4092, 0, 16380, 32767, 65535] mixed (by rfl) ?_
      refine Dr.read 0 _ 26 _ rfl rfl rfl rfl rfl (RV.of (by intro _ _ h; cases h) (.inl rfl) (fun _ xd => HV.mv rfl)) ?_
      refine Dr.read 1 _ 27 _ rfl rfl rfl rfl rfl (RV.of (by intro _ _ h; cases h) (.inl rfl) (fun _ xd => HV.mv rfl)) ?_
      refine Dr.read 2 _ 28 _ rfl rfl rfl rfl rfl (RV.of (by intro _ _ h; cases h) (.inl rfl) (fun _ xd => HV.mv rfl)) ?_
      refine Dr.read 3 _ 29 _ rfl rfl rfl rfl rfl (RV.of (by intro _ _ h; cases h) (.inl rfl) (fun _ xd => HV.mv rfl)) ?_
      obtain ⟨g67, z68, cs69, hz70, hK71, hC72, hg73, hP74⟩ := OwnK.ix (q := (i : Int)) hoL sl25 (by omega) (by first | omega | (simp only [List.length_append, List.length_singleton]; omega))
      have X75 := Ext.refl H10
      obtain rfl : cs69 = [.int .i64 z68] := hK71
      refine Dr.read 4 _ 30 _ rfl rfl rfl rfl rfl (RV.of (by intro _ _ h; cases h) (.inl rfl) (fun _ xd => hP74 rfl rfl)) ?_
      refine Dr.read 5 _ 31 _ rfl rfl rfl rfl rfl (RV.of (by intro _ _ h; cases h) (.inl rfl) (fun _ xd => HV.ld rfl va2 (rdc_ext xd (cells_first hC72 rfl)))) ?_
      refine Dr.read 6 _ 32 _ rfl rfl rfl rfl rfl (RV.of (by intro _ _ h; cases h) (.inl rfl) (fun _ xd => HV.mv rfl)) ?_
      refine Dr.read 7 _ 33 _ rfl rfl rfl rfl rfl (RV.of (by intro _ _ h; cases h) (.inl rfl) (fun _ xd => HV.mv rfl)) ?_
      obtain ⟨p76, z77, cs78, hz79, hK80, hC81, hP82⟩ := RdK.ix (q := (i : Int)) hr2 sl25 (by omega) (by omega)
      obtain rfl : cs78 = [.int .i64 z77] := hK80
      refine Dr.read 8 _ 34 _ rfl rfl rfl rfl rfl (RV.of (by intro _ _ h; cases h) (.inl rfl) (fun _ xd => hP82 rfl rfl)) ?_
      refine Dr.read 9 _ 35 _ rfl rfl rfl rfl rfl (RV.of (by intro _ _ h; cases h) (.inl rfl) (fun _ xd => HV.ld rfl va2 (rdc_ext xd (cells_first (hC81.ext X11) rfl)))) ?_
      refine Dr.read 10 _ 36 _ rfl rfl rfl rfl rfl (RV.of (by intro _ _ h; cases h) (.inl rfl) (fun _ xd => HV.mv rfl)) ?_
      have e30 : z68 = la.getD i 0 := sumT_get (by rw [← hk]; exact hz70)
      have b30 := getD_in hla (show 0 < p by omega) i
      have b34 := elem_at hlb hz79
      have q37 := mul31 (a := z77) (b := t) (by omega) (by omega) (by omega) (by omega)
      refine Dr.read 11 _ 37 _ rfl rfl rfl rfl rfl (RV.of (by intro _ _ h; cases h) (.inl rfl) (fun _ xd => HV.mul rfl rfl (by omega))) ?_
      refine Dr.read 12 _ 38 _ rfl rfl rfl rfl rfl (RV.of (by intro _ _ h; cases h) (.inl rfl) (fun _ xd => HV.add rfl rfl (by omega))) ?_
      refine Dr.read 13 _ 39 _ rfl rfl rfl rfl rfl (RV.of (by intro _ _ h; cases h) (.inl rfl) (fun _ xd => HV.mv rfl)) ?_
      refine Dr.read 14 _ 40 _ rfl rfl rfl rfl rfl (RV.of (by intro _ _ h; cases h) (.inl rfl) (fun _ xd => HV.rem rfl rfl (by omega))) ?_
      obtain ⟨g83, z84, cs85, hz86, hK87, hC88, hg89, hP90⟩ := OwnK.ix (q := (i : Int)) hoL sl25 (by omega) (by first | omega | (simp only [List.length_append, List.length_singleton]; omega))
      obtain rfl : cs85 = [.int .i64 z84] := hK87
      refine Dr.read 15 _ 41 _ rfl rfl rfl rfl rfl (RV.of (by intro _ _ h; cases h) (.inl rfl) (fun _ xd => hP90 rfl rfl)) ?_
      refine Dr.eff 16 _ _ rfl (by intro d h; cases h) rfl rfl rfl (EC.of (by intro _ _ h; cases h) (.inl rfl) (WV.stK (okx := fun _ => False) (x' := (z68 + (z77 * t)) % p) hoL hg89 rfl rfl va2 (by first | omega | (simp only [List.length_append, List.length_singleton]; omega)) rfl (fun _ h => h.elim))) (fun v H' h => .inr (.inl rfl)) ?_
      rintro _ H91 ⟨hx92, ho93⟩
      have X94 := Ext.thru X11 hx92 (fun b hb => Nat.le_trans o3 (hoL.blk b hb).1)
      have ho96 := ho93.okk (ok' := fun b => H.bd ≤ b) (fun b hb _ => hb.elim id False.elim)
      refine Dr.fin rfl ?_
      refine nrm_blk (nrm_and ?_)
      refine AW.reg ?_
      refine AL.val rfl (.inl rfl) (HV.mv rfl) ?_
      refine AL.val rfl (.inl rfl) (HV.add rfl rfl (by omega)) ?_
      refine AL.val rfl (.inl rfl) (HV.as rfl) ?_
      refine AL.nil ?_
      refine nrm_and ?_
      exact ⟨(i + 1, vv, (k.set ((i : Int) : Int).toNat ((z68 + (z77 * t)) % p))), ⟨X94, by omega, by rw [hk]; exact sumT_set (by rw [← hk]; omega) (by unfold addAt; rw [e30, (gd hz79 rfl : lb.getD i 0 = z77)]), by first | (simp only [List.length_set, List.length_append, List.length_singleton]; omega), ho96, trivial⟩, by first | omega | (dsimp only; omega), ⟨rfl, rfl, rfl, rfl, rfl, rfl, trivial⟩⟩
  · -- else
    refine AW.exit ?_
    refine ex_and (ex_and (ex_blk ?_))
    refine nrm_and ?_
    refine AW.rs ?_
    refine AL.val rfl (.inl rfl) (HV.mv rfl) ?_
    refine AL.val rfl (.inl rfl) (HV.as rfl) ?_
    refine AL.nx ?_
    refine AW.ret ?_
    refine post_one rfl rfl ?_ (.inr rfl)
    exact ⟨X11, by have e : k = addC p t la lb := (by rw [hk, show i = lb.length by omega]; exact sumT_end (by omega) hla); rw [← e]; exact hoL.okk (fun b hb _ => Nat.le_trans o3 hb)⟩

set_option maxRecDepth 100000 in
theorem specThr_ok {vP vV : Value} {P V : List Int} {okP okV : Nat → Prop} {p : Int} (hrP : RdK kI W H okP vP P) (hrV : RdK kI W H okV vV V) (hq : isPr p = true) (hP : elems p P) (hV : elems p V) (hl : P.length = V.length ∧ P.length ≤ 10) : ACalls Tryz.prog W 90 #[.int .i64 p, vP, vV] H (fun r H' => Ext H H' ∧ OwnK kI 2 W H' (fun b => H.bd ≤ b) r (throughM p P V)) := by
  refine ACalls.of (args := [.int .i64 p, vP, vV]) Tryz.func90 rfl rfl ?_
  have X0 := Ext.refl H
  have hm1 := hrP.max
  have hm2 := hrV.max
  have hp := isPr_bd hq
  refine AW.rs ?_
  refine AL.val rfl (.inl rfl) (HV.as rfl) ?_
  refine AL.nx ?_
  refine AW.rs ?_
  have o3 := X0.bd
  refine AL.w rfl (.inl rfl) (WV.bsK (K := kI) (l := ([] : List Int)) (css := []) sl25 rfl rfl (by first | rfl | (simp [Instr.fill, Value.cells, kI, kB, kU, kU8, kS, Kd.sc]; done) | (simp [Instr.fill, Value.cells, kI, kB, kU, kU8, kS, Kd.sc, rng1, rng2, rng3, rng4, kP])) rfl segs_nil) ?_
  rintro v4 H5 ⟨hx6, ho7⟩
  have X8 := Ext.trans X0 hx6
  refine AL.val rfl (.inl rfl) (HV.as rfl) ?_
  refine AL.nx ?_
  refine AW.seq ?_
  refine AW.rs ?_
  refine AL.val rfl (.inl rfl) (HV.as rfl) ?_
  refine AL.nx ?_
  refine AW.block ?_
  refine AW.loop (σ := Nat × Value) (fun ⟨i, vo⟩ => [(0, .int .i64 p), (1, vP), (2, vV), (6, (.slice none 0 0)), (7, vo), (8, .int .i64 (i : Int))]) (fun ⟨i, vo⟩ H' => Ext H H' ∧ i ≤ P.length ∧ RdK kI W H' (fun _ => True) vo (thO p P V i) ∧ True) (fun ⟨i, vo⟩ => P.length - i) (0, v4) ⟨X8, Nat.zero_le _, ho7.rd.okk (fun _ _ _ => trivial), trivial⟩ ⟨rfl, rfl, rfl, rfl, rfl, rfl, trivial⟩ ?_
  rintro ⟨i, vo⟩ H10 ⟨X11, hi, hro, _⟩
  have X12 := Ext.refl H10
  refine AW.seq ?_
  refine AW.rs ?_
  refine AL.val rfl (.inl rfl) (HV.mv rfl) ?_
  refine AL.val rfl (.inl rfl) (HV.mv rfl) ?_
  refine AL.val rfl (.inl rfl) (HV.len Tryz.underlying25 rfl hrP.isSl) ?_
  refine AL.val rfl (.inl rfl) (HV.lti rfl rfl) ?_
  refine AL.nx ?_
  refine AW.ifd rfl (fun c13 => ?_) (fun c13 => ?_)
  · -- then
    refine AW.skip ?_
    refine nrm_and ?_
    refine AW.seq ?_
    refine AW.block ?_
    refine AW.rs ?_
    have o14 := X11.bd
    have o15 := X12.bd
    refine AL.w rfl (.inl rfl) (WV.bsK (K := kI) (l := ([1] : List Int)) (css := [[.int .i64 1]]) sl25 rfl rfl (by first | rfl | (simp [Instr.fill, Value.cells, kI, kB, kU, kU8, kS, Kd.sc]; done) | (simp [Instr.fill, Value.cells, kI, kB, kU, kU8, kS, Kd.sc, rng1, rng2, rng3, rng4, kP])) rfl (segs_cons rfl segs_nil)) ?_
    rintro v16 H17 ⟨hx18, ho19⟩
    have X20 := Ext.trans X11 hx18
    have X21 := Ext.trans X12 hx18
    refine AL.val rfl (.inl rfl) (HV.as rfl) ?_
    refine AL.nx ?_
    refine AW.rs ?_
    refine AL.val rfl (.inl rfl) (HV.mv rfl) ?_
    refine AL.val rfl (.inl rfl) (HV.mv rfl) ?_
    obtain ⟨p23, z24, cs25, hz26, hK27, hC28, hP29⟩ := RdK.ix (q := (i : Int)) hrV sl25 (by omega) (by omega)
    obtain rfl : cs25 = [.int .i64 z24] := hK27
    refine AL.val rfl (.inl rfl) (hP29 rfl rfl) ?_
    refine AL.val rfl (.inl rfl) (HV.ld rfl va2 (cells_first (hC28.ext X20) rfl)) ?_
    refine AL.val rfl (.inl rfl) (HV.as rfl) ?_
    refine AL.nx ?_
    refine AW.seq ?_
    refine AW.rs ?_
    refine AL.val rfl (.inl rfl) (HV.as rfl) ?_
    refine AL.nx ?_
    refine AW.block ?_
    refine AW.loop (σ := Nat × Value × Int) (fun ⟨kk, vp, bb⟩ => [(0, .int .i64 p), (1, vP), (2, vV), (6, (.slice none 0 0)), (7, vo), (8, .int .i64 (i : Int)), (15, .int .i64 (i : Int)), (16, vP), (17, .int .i64 (P.length : Int)), (18, .bool (decide ((i : Int) < (P.length : Int)))), (21, v16), (22, vV), (23, .int .i64 (i : Int)), (24, .pointer (some p23)), (25, .int .i64 z24), (9, vp), (10, .int .i64 bb), (11, .int .i64 (kk : Int))]) (fun ⟨kk, vp, bb⟩ H' => Ext H H' ∧ Ext H10 H' ∧ kk ≤ P.length ∧ bb = thB p P V i kk ∧ RdK kI W H' (fun _ => True) vp (thK p P i kk) ∧ True) (fun ⟨kk, vp, bb⟩ => P.length - kk) (0, v16, z24) ⟨X20, X21, Nat.zero_le _, (gd hz26 rfl).symm, (ho19.rd).okk (fun _ _ _ => trivial), trivial⟩ ⟨rfl, rfl, rfl, rfl, rfl, rfl, rfl, rfl, rfl, rfl, rfl, rfl, rfl, rfl, rfl, rfl, rfl, rfl, trivial⟩ ?_
    rintro ⟨kk, vp, bb⟩ H30 ⟨X31, X32, hkk, hbb, hrp, _⟩
    have X33 := Ext.refl H30
    have hbi := thB_in (show 2 ≤ p by omega) P hV i kk
    rw [← hbb] at hbi
    have hkl := thK_len p P i kk
    refine AW.seq ?_
    refine AW.rs ?_
    refine AL.val rfl (.inl rfl) (HV.mv rfl) ?_
    refine AL.val rfl (.inl rfl) (HV.mv rfl) ?_
    refine AL.val rfl (.inl rfl) (HV.len Tryz.underlying25 rfl hrP.isSl) ?_
    refine AL.val rfl (.inl rfl) (HV.lti rfl rfl) ?_
    refine AL.nx ?_
    refine AW.ifd rfl (fun c34 => ?_) (fun c34 => ?_)
    · -- then
      refine AW.skip ?_
      refine nrm_and ?_
      refine AW.seq ?_
      refine AW.block ?_
      refine AW.seq ?_
      refine AW.rs ?_
      refine AL.val rfl (.inl rfl) (HV.mv rfl) ?_
      refine AL.val rfl (.inl rfl) (HV.mv rfl) ?_
      refine AL.val rfl (.inl rfl) (HV.eqi rfl rfl) ?_
      refine AL.nx ?_
      refine AW.ifd rfl (fun c35 => ?_) (fun c35 => ?_)
      · -- then
        refine AW.exit ?_
        refine ex_and (ex_blk ?_)
        refine nrm_and ?_
        refine AW.reg ?_
        refine AL.val rfl (.inl rfl) (HV.mv rfl) ?_
        refine AL.val rfl (.inl rfl) (HV.add rfl rfl (by omega)) ?_
        refine AL.val rfl (.inl rfl) (HV.as rfl) ?_
        refine AL.nil ?_
        refine nrm_and ?_
        exact ⟨(kk + 1, vp, bb), ⟨X31, X32, by omega, by rw [thB_y (List.getElem?_eq_getElem (show kk < P.length by omega)) (by omega)]; exact hbb, by rw [thK_y (List.getElem?_eq_getElem (show kk < P.length by omega)) (by omega)]; exact (hrp).okk (fun _ _ _ => trivial), trivial⟩, by first | omega | (dsimp only; omega), ⟨rfl, rfl, rfl, rfl, rfl, rfl, rfl, rfl, rfl, rfl, rfl, rfl, rfl, rfl, rfl, rfl, rfl, rfl, trivial⟩⟩
      · -- else
        refine AW.skip ?_
        refine nrm_and ?_
        refine AW.rs ?_
        refine AL.val rfl (.inl rfl) (HV.mv rfl) ?_
        refine AL.val rfl (.inl rfl) (HV.len Tryz.underlying25 rfl hrp.isSl) ?_
        refine AL.val rfl (.inl rfl) (HV.add rfl rfl (by omega)) ?_
        have o36 := X31.bd
        have o37 := X32.bd
        have o38 := X33.bd
        refine AL.w rfl (.inl rfl) (WV.mkK (K := kI) (0 : Int) (fun _ _ _ => rfl) sl25 rfl rfl rfl (by omega) (by omega) (by omega)) ?_
        rintro v39 H40 ⟨hx41, ho42⟩
        have X43 := Ext.trans X31 hx41
        have X44 := Ext.trans X32 hx41
        have X45 := Ext.trans X33 hx41
        refine AL.val rfl (.inl rfl) (HV.as rfl) ?_
        refine AL.nx ?_
        refine AW.seq ?_
        refine AW.rs ?_
        refine AL.val rfl (.inl rfl) (HV.as rfl) ?_
        refine AL.nx ?_
        refine AW.block ?_
        refine AW.loop (σ := Nat × List Int) (fun ⟨j, kx⟩ => [(0, .int .i64 p), (1, vP), (2, vV), (6, (.slice none 0 0)), (7, vo), (8, .int .i64 (i : Int)), (9, vp), (10, .int .i64 bb), (11, .int .i64 (kk : Int)), (12, v39), (15, .int .i64 (i : Int)), (16, vP), (17, .int .i64 (P.length : Int)), (18, .bool (decide ((i : Int) < (P.length : Int)))), (21, v16), (22, vV), (23, .int .i64 (i : Int)), (24, .pointer (some p23)), (25, .int .i64 z24), (26, .int .i64 (kk : Int)), (27, vP), (28, .int .i64 (P.length : Int)), (29, .bool (decide ((kk : Int) < (P.length : Int)))), (32, .int .i64 (kk : Int)), (33, .int .i64 (i : Int)), (34, .bool (decide ((kk : Int) = (i : Int)))), (35, vp), (36, .int .i64 ((thK p P i kk).length : Int)), (37, .int .i64 (((thK p P i kk).length : Int) + 1)), (38, v39), (12, v39), (13, .int .i64 (j : Int))]) (fun ⟨j, kx⟩ H' => Ext H H' ∧ Ext H10 H' ∧ Ext H30 H' ∧ j ≤ (thK p P i kk).length ∧ kx = nxL p (P.getD kk 0) (thK p P i kk) j ∧ OwnK kI 2 W H' (fun b => H30.bd ≤ b) v39 kx ∧ True) (fun ⟨j, kx⟩ => (thK p P i kk).length - j) (0, (List.replicate (((thK p P i kk).length : Int) + 1 : Int).toNat (0 : Int))) ⟨X43, X44, X45, Nat.zero_le _, by rw [show (((thK p P i kk).length : Int) + 1).toNat = (thK p P i kk).length + 1 by omega]; exact nxL_zero _ _ _, ho42, trivial⟩ ⟨rfl, rfl, rfl, rfl, rfl, rfl, rfl, rfl, rfl, rfl, rfl, rfl, rfl, rfl, rfl, rfl, rfl, rfl, rfl, rfl, rfl, rfl, rfl, rfl, rfl, rfl, rfl, rfl, rfl, rfl, rfl, rfl, trivial⟩ ?_
        rintro ⟨j, kx⟩ H47 ⟨X48, X49, X50, hj, hkx, hoN, _⟩
        have hkxl : kx.length = (thK p P i kk).length + 1 := by rw [hkx, nxL_len]
        refine AW.seq ?_
        refine AW.rs ?_
        refine AL.val rfl (.inl rfl) (HV.mv rfl) ?_
        refine AL.val rfl (.inl rfl) (HV.mv rfl) ?_
        refine AL.val rfl (.inl rfl) (HV.len Tryz.underlying25 rfl hrp.isSl) ?_
        refine AL.val rfl (.inl rfl) (HV.lti rfl rfl) ?_
        refine AL.nx ?_
        refine AW.ifd rfl (fun c51 => ?_) (fun c51 => ?_)
        · -- then
          refine AW.skip ?_
          refine nrm_and ?_
          refine AW.seq ?_
          refine AW.block ?_
          refine AW.seq ?_
          refine AW.draw' [0, 0, 2, 0, 0, 16, 56, 120, 0, 0, 768, 1792, 4088, 0, 16376, 32767, 65535] mixed (by rfl) ?_
          refine Dr.read 0 _ 45 _ rfl rfl rfl rfl rfl (RV.of (by intro _ _ h; cases h) (.inl rfl) (fun _ xd => HV.mv rfl)) ?_
          refine Dr.read 1 _ 46 _ rfl rfl rfl rfl rfl (RV.of (by intro _ _ h; cases h) (.inl rfl) (fun _ xd => HV.mv rfl)) ?_
          refine Dr.read 2 _ 47 _ rfl rfl rfl rfl rfl (RV.of (by intro _ _ h; cases h) (.inl rfl) (fun _ xd => HV.add rfl rfl (by omega))) ?_
          refine Dr.read 3 _ 48 _ rfl rfl rfl rfl rfl (RV.of (by intro _ _ h; cases h) (.inl rfl) (fun _ xd => HV.mv rfl)) ?_
          refine Dr.read 4 _ 49 _ rfl rfl rfl rfl rfl (RV.of (by intro _ _ h; cases h) (.inl rfl) (fun _ xd => HV.mv rfl)) ?_
          refine Dr.read 5 _ 50 _ rfl rfl rfl rfl rfl (RV.of (by intro _ _ h; cases h) (.inl rfl) (fun _ xd => HV.add rfl rfl (by omega))) ?_
          obtain ⟨g52, z53, cs54, hz55, hK56, hC57, hg58, hP59⟩ := OwnK.ix (q := (j : Int) + 1) hoN sl25 (by omega) (by omega)
          have X60 := Ext.refl H47
          obtain rfl : cs54 = [.int .i64 z53] := hK56
          refine Dr.read 6 _ 51 _ rfl rfl rfl rfl rfl (RV.of (by intro _ _ h; cases h) (.inl rfl) (fun _ xd => hP59 rfl rfl)) ?_
          refine Dr.read 7 _ 52 _ rfl rfl rfl rfl rfl (RV.of (by intro _ _ h; cases h) (.inl rfl) (fun _ xd => HV.ld rfl va2 (rdc_ext xd (cells_first hC57 rfl)))) ?_
          refine Dr.read 8 _ 53 _ rfl rfl rfl rfl rfl (RV.of (by intro _ _ h; cases h) (.inl rfl) (fun _ xd => HV.mv rfl)) ?_
          refine Dr.read 9 _ 54 _ rfl rfl rfl rfl rfl (RV.of (by intro _ _ h; cases h) (.inl rfl) (fun _ xd => HV.mv rfl)) ?_
          obtain ⟨p61, z62, cs63, hz64, hK65, hC66, hP67⟩ := RdK.ix (q := (j : Int)) hrp sl25 (by omega) (by omega)
          obtain rfl : cs63 = [.int .i64 z62] := hK65
          refine Dr.read 10 _ 55 _ rfl rfl rfl rfl rfl (RV.of (by intro _ _ h; cases h) (.inl rfl) (fun _ xd => hP67 rfl rfl)) ?_
          refine Dr.read 11 _ 56 _ rfl rfl rfl rfl rfl (RV.of (by intro _ _ h; cases h) (.inl rfl) (fun _ xd => HV.ld rfl va2 (rdc_ext xd (cells_first (hC66.ext X50) rfl)))) ?_
          have e52 := nx_a (q := (j : Int) + 1) rfl (by rw [← hkx]; exact hz55)
          have b56 := elem_at (thK_in (show 2 ≤ p by omega) P i kk) hz64
          refine Dr.read 12 _ 57 _ rfl rfl rfl rfl rfl (RV.of (by intro _ _ h; cases h) (.inl rfl) (fun _ xd => HV.add rfl rfl (by omega))) ?_
          refine Dr.read 13 _ 58 _ rfl rfl rfl rfl rfl (RV.of (by intro _ _ h; cases h) (.inl rfl) (fun _ xd => HV.mv rfl)) ?_
          refine Dr.read 14 _ 59 _ rfl rfl rfl rfl rfl (RV.of (by intro _ _ h; cases h) (.inl rfl) (fun _ xd => HV.rem rfl rfl (by omega))) ?_
          obtain ⟨g68, z69, cs70, hz71, hK72, hC73, hg74, hP75⟩ := OwnK.ix (q := (j : Int) + 1) hoN sl25 (by omega) (by omega)
          obtain rfl : cs70 = [.int .i64 z69] := hK72
          refine Dr.read 15 _ 60 _ rfl rfl rfl rfl rfl (RV.of (by intro _ _ h; cases h) (.inl rfl) (fun _ xd => hP75 rfl rfl)) ?_
          refine Dr.eff 16 _ _ rfl (by intro d h; cases h) rfl rfl rfl (EC.of (by intro _ _ h; cases h) (.inl rfl) (WV.stK (okx := fun _ => False) (x' := (z53 + z62) % p) hoN hg74 rfl rfl va2 (by first | omega | (simp only [List.length_set]; omega)) rfl (fun _ h => h.elim))) (fun v H' h => .inr (.inl rfl)) ?_
          rintro _ H76 ⟨hx77, ho78⟩
          have X79 := Ext.thru X48 hx77 (fun b hb => Nat.le_trans o36 (hoN.blk b hb).1)
          have X80 := Ext.thru X49 hx77 (fun b hb => Nat.le_trans o37 (hoN.blk b hb).1)
          have X81 := Ext.thru X50 hx77 (fun b hb => Nat.le_trans o38 (hoN.blk b hb).1)
          have q83 := Nat.le_trans X60.bd hx77.bd
          have ho84 := ho78.okk (ok' := fun b => H30.bd ≤ b) (fun b hb _ => hb.elim id False.elim)
          refine Dr.fin rfl ?_
          refine nrm_and ?_
          refine AW.draw' [0, 0, 0, 0, 12, 28, 0, 0, 192, 448, 0, 0, 3072, 7168, 15360, 0, 64512, 131008, 262140, 0, 1048572, 2097151, 4194303] mixed (by rfl) ?_
          refine Dr.read 0 _ 61 _ rfl rfl rfl rfl rfl (RV.of (by intro _ _ h; cases h) (.inl rfl) (fun _ xd => HV.mv rfl)) ?_
          refine Dr.read 1 _ 62 _ rfl rfl rfl rfl rfl (RV.of (by intro _ _ h; cases h) (.inl rfl) (fun _ xd => HV.mv rfl)) ?_
          refine Dr.read 2 _ 63 _ rfl rfl rfl rfl rfl (RV.of (by intro _ _ h; cases h) (.inl rfl) (fun _ xd => HV.mv rfl)) ?_
          refine Dr.read 3 _ 64 _ rfl rfl rfl rfl rfl (RV.of (by intro _ _ h; cases h) (.inl rfl) (fun _ xd => HV.mv rfl)) ?_
          obtain ⟨g85, z86, cs87, hz88, hK89, hC90, hg91, hP92⟩ := OwnK.ix (q := (j : Int)) ho84 sl25 (by omega) (by first | omega | (simp only [List.length_set]; omega))
          have X93 := Ext.refl H76
          obtain rfl : cs87 = [.int .i64 z86] := hK89
          refine Dr.read 4 _ 65 _ rfl rfl rfl rfl rfl (RV.of (by intro _ _ h; cases h) (.inl rfl) (fun _ xd => hP92 rfl rfl)) ?_
          refine Dr.read 5 _ 66 _ rfl rfl rfl rfl rfl (RV.of (by intro _ _ h; cases h) (.inl rfl) (fun _ xd => HV.ld rfl va2 (rdc_ext xd (cells_first hC90 rfl)))) ?_
          refine Dr.read 6 _ 67 _ rfl rfl rfl rfl rfl (RV.of (by intro _ _ h; cases h) (.inl rfl) (fun _ xd => HV.mv rfl)) ?_
          refine Dr.read 7 _ 68 _ rfl rfl rfl rfl rfl (RV.of (by intro _ _ h; cases h) (.inl rfl) (fun _ xd => HV.mv rfl)) ?_
          obtain ⟨p94, z95, cs96, hz97, hK98, hC99, hP100⟩ := RdK.ix (q := (j : Int)) hrp sl25 (by omega) (by omega)
          obtain rfl : cs96 = [.int .i64 z95] := hK98
          refine Dr.read 8 _ 69 _ rfl rfl rfl rfl rfl (RV.of (by intro _ _ h; cases h) (.inl rfl) (fun _ xd => hP100 rfl rfl)) ?_
          refine Dr.read 9 _ 70 _ rfl rfl rfl rfl rfl (RV.of (by intro _ _ h; cases h) (.inl rfl) (fun _ xd => HV.ld rfl va2 (rdc_ext xd (cells_first (hC99.ext X81) rfl)))) ?_
          refine Dr.read 10 _ 71 _ rfl rfl rfl rfl rfl (RV.of (by intro _ _ h; cases h) (.inl rfl) (fun _ xd => HV.mv rfl)) ?_
          refine Dr.read 11 _ 72 _ rfl rfl rfl rfl rfl (RV.of (by intro _ _ h; cases h) (.inl rfl) (fun _ xd => HV.mv rfl)) ?_
          obtain ⟨p101, z102, cs103, hz104, hK105, hC106, hP107⟩ := RdK.ix (q := (kk : Int)) hrP sl25 (by omega) (by omega)
          obtain rfl : cs103 = [.int .i64 z102] := hK105
          refine Dr.read 12 _ 73 _ rfl rfl rfl rfl rfl (RV.of (by intro _ _ h; cases h) (.inl rfl) (fun _ xd => hP107 rfl rfl)) ?_
          refine Dr.read 13 _ 74 _ rfl rfl rfl rfl rfl (RV.of (by intro _ _ h; cases h) (.inl rfl) (fun _ xd => HV.ld rfl va2 (rdc_ext xd (cells_first (hC106.ext X79) rfl)))) ?_
          have b74 := elem_at hP hz104
          refine Dr.read 14 _ 75 _ rfl rfl rfl rfl rfl (RV.of (by intro _ _ h; cases h) (.inl rfl) (fun _ xd => HV.neg rfl (by omega))) ?_
          refine Dr.read 15 _ 76 _ rfl rfl rfl rfl rfl (RV.of (by intro _ _ h; cases h) (.inl rfl) (fun _ xd => HV.mv rfl)) ?_
          refine Dr.read 19 _ 80 _ rfl rfl rfl rfl rfl (RV.of (by intro _ _ h; cases h) (.inl rfl) (fun _ xd => HV.mv rfl)) ?_
          refine Dr.eff 16 _ _ rfl (by intro d h; cases h; exact ⟨rfl, rfl⟩) rfl rfl rfl (EC.of (by intro _ _ h; cases h) (.inl rfl) (WV.call fn99 rfl (rest_ok (W := W) (-z102) p hp))) (fun v H' h => .inl (h.2)) ?_
          rintro _ H108 ⟨rfl, hx109⟩
          have q110 := Nat.le_trans q83 hx109.bd
          have X111 := Ext.trans X79 hx109
          have X112 := Ext.trans X80 hx109
          have X113 := Ext.trans X81 hx109
          have X114 := Ext.trans X93 hx109
          have ho115 := ho84.ext hx109
          have e66 := nx_b (q := (j : Int) + 1) (q2 := (j : Int)) rfl rfl (by rw [← hkx]; exact hz88)
          have b66 : 0 ≤ z86 ∧ z86 ≤ p - 1 := by rw [e66]; split; (omega); exact getD_in (thK_in (by omega) P i kk) (by omega) _
          have b70 := elem_at (thK_in (show 2 ≤ p by omega) P i kk) hz97
          have r77 := emod_bd (show 0 < p by omega) (-z102)
          have q78 := mul31 (a := z95) (b := (-z102) % p) (by omega) (by omega) (by omega) (by omega)
          refine Dr.read 17 _ 78 _ rfl rfl rfl rfl rfl (RV.of (by intro _ _ h; cases h) (.inl rfl) (fun _ xd => HV.mul rfl rfl (by omega))) ?_
          refine Dr.read 18 _ 79 _ rfl rfl rfl rfl rfl (RV.of (by intro _ _ h; cases h) (.inl rfl) (fun _ xd => HV.add rfl rfl (by omega))) ?_
          refine Dr.read 20 _ 81 _ rfl rfl rfl rfl rfl (RV.of (by intro _ _ h; cases h) (.inl rfl) (fun _ xd => HV.rem rfl rfl (by omega))) ?_
          obtain ⟨g116, z117, cs118, hz119, hK120, hC121, hg122, hP123⟩ := OwnK.ix (q := (j : Int)) ho115 sl25 (by omega) (by first | omega | (simp only [List.length_set]; omega))
          have X124 := Ext.refl H108
          obtain rfl : cs118 = [.int .i64 z117] := hK120
          refine Dr.read 21 _ 82 _ rfl rfl rfl rfl rfl (RV.of (by intro _ _ h; cases h) (.inl rfl) (fun _ xd => hP123 rfl rfl)) ?_
          refine Dr.eff 22 _ _ rfl (by intro d h; cases h) rfl rfl rfl (EC.of (by intro _ _ h; cases h) (.inl rfl) (WV.stK (okx := fun _ => False) (x' := (z86 + (z95 * ((-z102) % p))) % p) ho115 hg122 rfl rfl va2 (by first | omega | (simp only [List.length_set]; omega)) rfl (fun _ h => h.elim))) (fun v H' h => .inr (.inl rfl)) ?_
          rintro _ H125 ⟨hx126, ho127⟩
          have q128 := Nat.le_trans q110 hx126.bd
          have X129 := Ext.thru X111 hx126 (fun b hb => Nat.le_trans o36 (ho115.blk b hb).1)
          have X130 := Ext.thru X112 hx126 (fun b hb => Nat.le_trans o37 (ho115.blk b hb).1)
          have X131 := Ext.thru X113 hx126 (fun b hb => Nat.le_trans o38 (ho115.blk b hb).1)
          have q133 := Nat.le_trans X114.bd hx126.bd
          have q135 := Nat.le_trans X124.bd hx126.bd
          have ho136 := ho127.okk (ok' := fun b => H30.bd ≤ b) (fun b hb _ => hb.elim id False.elim)
          refine Dr.fin rfl ?_
          refine nrm_blk (nrm_and ?_)
          refine AW.reg ?_
          refine AL.val rfl (.inl rfl) (HV.mv rfl) ?_
          refine AL.val rfl (.inl rfl) (HV.add rfl rfl (by omega)) ?_
          refine AL.val rfl (.inl rfl) (HV.as rfl) ?_
          refine AL.nil ?_
          refine nrm_and ?_
          exact ⟨(j + 1, ((kx.set ((j : Int) + 1 : Int).toNat ((z53 + z62) % p)).set ((j : Int) : Int).toNat ((z86 + (z95 * ((-z102) % p))) % p))), ⟨X129, X130, X131, by omega, by rw [hkx, show z95 = z62 from Option.some.inj (hz97.symm.trans hz64), ← (gd (d := 0) hz104 rfl : P.getD kk 0 = z102)]; exact nxL_step (by omega) (thK_in (by omega) P i kk) (getq hz64 rfl) rfl rfl e52 (e66.trans (by rfl)), ho136, trivial⟩, by first | omega | (dsimp only; omega), ⟨rfl, rfl, rfl, rfl, rfl, rfl, rfl, rfl, rfl, rfl, rfl, rfl, rfl, rfl, rfl, rfl, rfl, rfl, rfl, rfl, rfl, rfl, rfl, rfl, rfl, rfl, rfl, rfl, rfl, rfl, rfl, rfl, trivial⟩⟩
        · -- else
          refine AW.exit ?_
          refine ex_and (ex_and (ex_blk ?_))
          refine nrm_and ?_
          refine AW.rs ?_
          refine AL.val rfl (.inl rfl) (HV.mv rfl) ?_
          refine AL.val rfl (.inl rfl) (HV.as rfl) ?_
          refine AL.nx ?_
          refine AW.draw' [0, 0, 0, 6, 14, 0, 0, 96, 224, 510, 0, 2046, 0, 8190, 16383, 0, 65535, 131071] mixed (by rfl) ?_
          refine Dr.read 0 _ 84 _ rfl rfl rfl rfl rfl (RV.of (by intro _ _ h; cases h) (.inl rfl) (fun _ xd => HV.mv rfl)) ?_
          refine Dr.read 1 _ 85 _ rfl rfl rfl rfl rfl (RV.of (by intro _ _ h; cases h) (.inl rfl) (fun _ xd => HV.mv rfl)) ?_
          refine Dr.read 2 _ 86 _ rfl rfl rfl rfl rfl (RV.of (by intro _ _ h; cases h) (.inl rfl) (fun _ xd => HV.mv rfl)) ?_
          obtain ⟨p137, z138, cs139, hz140, hK141, hC142, hP143⟩ := RdK.ix (q := (i : Int)) hrP sl25 (by omega) (by omega)
          obtain rfl : cs139 = [.int .i64 z138] := hK141
          refine Dr.read 3 _ 87 _ rfl rfl rfl rfl rfl (RV.of (by intro _ _ h; cases h) (.inl rfl) (fun _ xd => hP143 rfl rfl)) ?_
          refine Dr.read 4 _ 88 _ rfl rfl rfl rfl rfl (RV.of (by intro _ _ h; cases h) (.inl rfl) (fun _ xd => HV.ld rfl va2 (rdc_ext xd (cells_first (hC142.ext X48) rfl)))) ?_
          refine Dr.read 5 _ 89 _ rfl rfl rfl rfl rfl (RV.of (by intro _ _ h; cases h) (.inl rfl) (fun _ xd => HV.mv rfl)) ?_
          refine Dr.read 6 _ 90 _ rfl rfl rfl rfl rfl (RV.of (by intro _ _ h; cases h) (.inl rfl) (fun _ xd => HV.mv rfl)) ?_
          obtain ⟨p144, z145, cs146, hz147, hK148, hC149, hP150⟩ := RdK.ix (q := (kk : Int)) hrP sl25 (by omega) (by omega)
          obtain rfl : cs146 = [.int .i64 z145] := hK148
          refine Dr.read 7 _ 91 _ rfl rfl rfl rfl rfl (RV.of (by intro _ _ h; cases h) (.inl rfl) (fun _ xd => hP150 rfl rfl)) ?_
          refine Dr.read 8 _ 92 _ rfl rfl rfl rfl rfl (RV.of (by intro _ _ h; cases h) (.inl rfl) (fun _ xd => HV.ld rfl va2 (rdc_ext xd (cells_first (hC149.ext X48) rfl)))) ?_
          have b88 := elem_at hP hz140
          have b92 := elem_at hP hz147
          have r95 := emod_bd (show 0 < p by omega) (z138 - z145)
          refine Dr.read 9 _ 93 _ rfl rfl rfl rfl rfl (RV.of (by intro _ _ h; cases h) (.inl rfl) (fun _ xd => HV.sub rfl rfl (by omega))) ?_
          refine Dr.read 10 _ 94 _ rfl rfl rfl rfl rfl (RV.of (by intro _ _ h; cases h) (.inl rfl) (fun _ xd => HV.mv rfl)) ?_
          refine Dr.read 12 _ 96 _ rfl rfl rfl rfl rfl (RV.of (by intro _ _ h; cases h) (.inl rfl) (fun _ xd => HV.mv rfl)) ?_
          refine Dr.read 15 _ 99 _ rfl rfl rfl rfl rfl (RV.of (by intro _ _ h; cases h) (.inl rfl) (fun _ xd => HV.mv rfl)) ?_
          refine Dr.eff 11 _ _ rfl (by intro d h; cases h; exact ⟨rfl, rfl⟩) rfl rfl rfl (EC.of (by intro _ _ h; cases h) (.inl rfl) (WV.call fn99 rfl (rest_ok (W := W) (z138 - z145) p hp))) (fun v H' h => .inl (h.2)) ?_
          rintro _ H151 ⟨rfl, hx152⟩
          have X153 := Ext.trans X48 hx152
          have X154 := Ext.trans X49 hx152
          have X155 := Ext.trans X50 hx152
          have ho156 := hoN.ext hx152
          refine Dr.eff 13 _ _ rfl (by intro d h; cases h; exact ⟨rfl, rfl⟩) rfl rfl rfl (EC.of (by intro _ _ h; cases h) (.inl rfl) (WV.call fn100 rfl (l05Inv_ok (W := W) ((z138 - z145) % p) p hq (emod_bd (by omega) _).1 (emod_bd (by omega) _).2))) (fun v H' h => .inl (h.2)) ?_
          rintro _ H157 ⟨rfl, hx158⟩
          have X159 := Ext.trans X153 hx158
          have X160 := Ext.trans X154 hx158
          have X161 := Ext.trans X155 hx158
          have ho162 := ho156.ext hx158
          have q97 := invM_in (show 2 ≤ p by omega) ((z138 - z145) % p)
          have q98 := mul31 (a := bb) (b := invM p ((z138 - z145) % p)) (by omega) (by omega) (by omega) (by omega)
          refine Dr.read 14 _ 98 _ rfl rfl rfl rfl rfl (RV.of (by intro _ _ h; cases h) (.inl rfl) (fun _ xd => HV.mul rfl rfl (by omega))) ?_
          refine Dr.read 16 _ 100 _ rfl rfl rfl rfl rfl (RV.of (by intro _ _ h; cases h) (.inl rfl) (fun _ xd => HV.rem rfl rfl (by omega))) ?_
          refine Dr.eff 17 _ _ rfl (by intro d h; cases h; exact ⟨rfl, rfl⟩) rfl rfl rfl (EC.of (by intro _ _ h; cases h) (.inl rfl) (WV.ofHV (HV.as rfl))) (fun v H' h => .inl (h.2 ▸ Ext.refl _)) ?_
          rintro u_ h_ ⟨e1_, e2_⟩
          rw [e1_, e2_]
          clear e1_ e2_ u_ h_
          refine Dr.fin rfl ?_
          refine nrm_blk (nrm_and ?_)
          refine AW.reg ?_
          refine AL.val rfl (.inl rfl) (HV.mv rfl) ?_
          refine AL.val rfl (.inl rfl) (HV.add rfl rfl (by omega)) ?_
          refine AL.val rfl (.inl rfl) (HV.as rfl) ?_
          refine AL.nil ?_
          refine nrm_and ?_
          exact ⟨(kk + 1, v39, (bb * (invM p ((z138 - z145) % p))) % p), ⟨X159, X160, by omega, by rw [thB_n (getq hz147 rfl) (by omega), (gd hz140 rfl : P.getD i 0 = z138), ← hbb], by rw [thK_n (getq hz147 rfl) (by omega), ← (gd (d := 0) hz147 rfl), ← nxL_end (by omega) (thK_in (by omega) P i kk), show (thK p P i kk).length = j by omega, ← hkx]; exact (ho162.rd).okk (fun _ _ _ => trivial), trivial⟩, by first | omega | (dsimp only; omega), ⟨rfl, rfl, rfl, rfl, rfl, rfl, rfl, rfl, rfl, rfl, rfl, rfl, rfl, rfl, rfl, rfl, rfl, rfl, trivial⟩⟩
    · -- else
      refine AW.exit ?_
      refine ex_and (ex_and (ex_blk ?_))
      refine nrm_and ?_
      refine AW.reg ?_
      refine AL.val rfl (.inl rfl) (HV.mv rfl) ?_
      refine AL.val rfl (.inl rfl) (HV.mv rfl) ?_
      refine AL.val rfl (.inl rfl) (HV.mv rfl) ?_
      refine AL.val rfl (.inl rfl) (HV.mv rfl) ?_
      have o163 := X31.bd
      have o164 := X32.bd
      have o165 := X33.bd
      refine AL.w rfl (.inl rfl) (WV.call fn101 rfl (pad_ok (hro.ext X32) hrp bb (by omega) (by rw [hbb]; exact thB_in (by omega) P hV i kk) (thO_in (by omega) P V i) (thK_in (by omega) P i kk) ⟨by have := thO_len p P V i; omega, by have := thK_len p P i kk; omega⟩)) ?_
      rintro v166 H167 ⟨hx168, ho169⟩
      have X170 := Ext.trans X31 hx168
      have X171 := Ext.trans X32 hx168
      have X172 := Ext.trans X33 hx168
      refine AL.val rfl (.inl rfl) (HV.as rfl) ?_
      refine AL.nil ?_
      refine nrm_blk (nrm_and ?_)
      refine AW.reg ?_
      refine AL.val rfl (.inl rfl) (HV.mv rfl) ?_
      refine AL.val rfl (.inl rfl) (HV.add rfl rfl (by omega)) ?_
      refine AL.val rfl (.inl rfl) (HV.as rfl) ?_
      refine AL.nil ?_
      refine nrm_and ?_
      exact ⟨(i + 1, v166), ⟨X170, by omega, by rw [thO_succ, show P.length = kk by omega, ← hbb]; exact (ho169.rd).okk (fun _ _ _ => trivial), trivial⟩, by first | omega | (dsimp only; omega), ⟨rfl, rfl, rfl, rfl, rfl, rfl, trivial⟩⟩
  · -- else
    refine AW.exit ?_
    refine ex_and (ex_and (ex_blk ?_))
    refine nrm_and ?_
    refine AW.rs ?_
    refine AL.val rfl (.inl rfl) (HV.mv rfl) ?_
    have o174 := X11.bd
    have o175 := X12.bd
    refine AL.w rfl (.inl rfl) (WV.call fn20 rfl (cutS_ok hro (by have := thO_len p P V i; omega))) ?_
    rintro v176 H177 ⟨hx178, ho179⟩
    have X180 := Ext.trans X11 hx178
    have X181 := Ext.trans X12 hx178
    refine AL.val rfl (.inl rfl) (HV.as rfl) ?_
    refine AL.nx ?_
    refine AW.ret ?_
    refine post_one rfl rfl ?_ (.inr rfl)
    exact ⟨X180, by have q := ho179.okk (fun b hb _ => Nat.le_trans o174 hb); rw [show i = P.length by omega] at q; exact q⟩
end Go.Proofs.YtbjcgcililpfdaaGreat.VC

