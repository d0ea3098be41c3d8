/- The library's functions, as calls of the walks. -/
import Derived.Test.YteajnanbfkcdcaaDoorVR1
import Derived.Test.YteajnanbfkcdcaaDoorVRL
import Derived.Lib.ParseIntBTie
import Derived.Lib.AtoiErrMem
import Derived.Lib.ItoaLen
set_option linter.unusedVariables false
set_option linter.unusedSimpArgs false
namespace Go.Proofs.YteajnanbfkcdcaaDoor.VC
open Go Go.RowKit Go.Shelf
theorem var_on {P : Program} {W w : World} {n : String} {cs : Array Value} (h : Below W.heap.size W w) (hv : W.var? P n = some cs) : w.var? P n = some cs := by
  unfold World.var? at *
  cases hg : P.globalNamed n with
  | none => rw [hg] at hv; cases hv
  | some g =>
    rw [hg] at hv
    simp only [Option.bind_some] at hv ⊢
    cases hb : W.heap[g]? with
    | none => rw [hb] at hv; cases hv
    | some o =>
      have hlt := (Array.getElem?_eq_some_iff.1 hb).1
      rw [h.block g hlt]; exact hv
/-- What the library's variables hold. -/
structure Env (W : World) : Prop where
  ml : ∃ m, W.cell? ⟨splLR.g 1, 0, none⟩ = some (.int .i64 m)
  es : ∃ tp p, W.var? Tryd.prog "strconv.ErrSyntax" = some #[.iface tp p]
  er : ∃ tp p, W.var? Tryd.prog "strconv.ErrRange" = some #[.iface tp p]
  tb : Lib.TabIs Tryd.prog W "internal/strconv.uint64pow10" .u64 Lib.pow10Tab
theorem Env.on {W w : World} (h : Env W) (hb : Below W.heap.size W w) : Env w := by
  obtain ⟨⟨m, h1⟩, ⟨tp, p, h2⟩, ⟨tq, q, h3⟩, h4⟩ := h
  exact ⟨⟨m, (hb.cell (World.block_lt_of_cell? W _ h1)).trans h1⟩, ⟨tp, p, var_on hb h2⟩, ⟨tq, q, var_on hb h3⟩, var_on hb h4⟩
section
variable {W : World} {H : Hp}
theorem SatH.on {w w' : World} (hw : SatH W H w) (hb : Below w.heap.size w w') : SatH W H w' := by
  refine ⟨hw.below.trans (hb.mono hw.below.size), Nat.le_trans hw.bd hb.size, fun b x hx => ?_⟩
  obtain ⟨h1, cur, h2, h3⟩ := hw.own b x hx
  exact ⟨h1, cur, (hb.block b (Array.getElem?_eq_some_iff.1 h2).1).trans h2, h3⟩
/-! ### ParseInt -/
def numO : Lib.NumEnd Int → Option Int
  | .ok v => some v
  | _ => none
theorem PI_of {t : List Int} {x : Lib.NumEnd Int} (h : Lib.parseIntB 64 (bytesOf t).data.toList = x) : PI t = numO x := by
  rw [bytesOf_data] at h
  subst h; rfl
theorem PI_bd {t : List Int} {v : Int} (h : PI t = some v) : -9223372036854775808 ≤ v ∧ v ≤ 9223372036854775807 := by
  unfold PI at h
  split at h
  · rename_i u hu
    cases h
    have := Lib.parseIntB_bounds hu
    omega
  · cases h
theorem pi_ok (hE : Env W) (t : List Int) (hl : t.length ≤ 4000) : ACalls Tryd.prog W 27 #[.string (bytesOf t), .int .i64 10, .int .i64 64] H (fun r H' => ((∃ v, r = .tuple #[.int .i64 v, .nilIface] ∧ PI t = some v) ∨ (∃ v a b, r = .tuple #[.int .i64 v, .iface a b] ∧ PI t = none)) ∧ Ext H H') := fun w hw => by
  have hE2 := hE.on hw.below
  have hsz : (bytesOf t).size ≤ 4000 := by rw [bytesOf_size]; exact hl
  rcases h : Lib.parseIntB 64 (bytesOf t).data.toList with v | _ | _
  · -- a number
    refine Calls.mono (Any.strconv_ParseInt_10_at64_ok piL (bytesOf t) (by omega) v h w) fun e w' he => ?_
    obtain ⟨rfl, hw'⟩ := he
    have hb : Below w.heap.size w w' := by
      rcases hw' with rfl | ⟨s, rfl⟩
      · exact Below.refl _ _
      · exact Lib.bytesWorld_below _ _ _
    exact ⟨_, H, rfl, hw.on hb, .inl ⟨v, rfl, PI_of h⟩, Ext.refl _⟩
  · -- none
    obtain ⟨tp, p, hv⟩ := hE2.es
    refine Calls.mono (Any.strconv_ParseInt_10_at64_syntax_var piL (bytesOf t) (by omega) h tp p w hv) fun e w' he => ?_
    obtain ⟨n, rfl, _, _, hb⟩ := he
    exact ⟨_, H, rfl, hw.on hb, .inr ⟨_, _, _, rfl, PI_of h⟩, Ext.refl _⟩
  · -- too great
    obtain ⟨tp, p, hv⟩ := hE2.er
    refine Calls.mono (Any.strconv_ParseInt_10_at64_range_var piL (bytesOf t) (by omega) h tp p w hv) fun e w' he => ?_
    obtain ⟨n, rfl, _, _, hb⟩ := he
    exact ⟨_, H, rfl, hw.on hb, .inr ⟨_, _, _, rfl, PI_of h⟩, Ext.refl _⟩
/-! ### FormatInt -/
theorem bytesOf_u8 (l : List UInt8) : bytesOf (l.map (fun b => (b.toNat : Int))) = ⟨l.toArray⟩ := by
  apply ByteArray.ext
  apply Array.ext'
  rw [bytesOf_data, List.map_map]
  exact (List.map_congr_left fun b _ => by simp).trans (List.map_id l)
theorem grow_below (w : World) (k : Nat) (os : Array Obj) : Below w.heap.size w (Sort.grow (w.drewN k) os) :=
  ⟨rfl, rfl, rfl, by simp [Sort.grow, World.drewN], fun j hj => by simp only [Sort.grow, World.drewN]; rw [Array.getElem?_append_left hj]⟩
theorem fm_ok (hE : Env W) (n : Int) (h : -9223372036854775808 ≤ n ∧ n ≤ 9223372036854775807) : ACalls Tryd.prog W 56 #[.int .i64 n, .int .i64 10] H (fun r H' => r = .string (bytesOf (itoaI n)) ∧ Ext H H') := fun w hw => by
  refine Calls.mono (Any.strconv_FormatInt_10 fmL n h.1 h.2 w (hE.on hw.below).tb) fun e w' he => ?_
  obtain ⟨rfl, k, os, rfl⟩ := he
  exact ⟨_, H, rfl, hw.on (grow_below _ _ _), congrArg Value.string (bytesOf_u8 _).symm, Ext.refl _⟩
theorem itoaI_len {n : Int} (h : -9223372036854775808 ≤ n ∧ n ≤ 9223372036854775807) : (itoaI n).length ≤ 21 := by
  unfold itoaI
  rw [List.length_map]
  exact Lib.itoa_length_le n h.1 h.2
/-! ### Split -/
def spU (c : UInt8) : List UInt8 → List (List UInt8)
  | [] => [[]]
  | x :: t => if x = c then [] :: spU c t else (x :: (spU c t).headD []) :: (spU c t).tail
theorem spU_cons (c x : UInt8) (t : List UInt8) : spU c (x :: t) = if x = c then [] :: spU c t else (x :: (spU c t).headD []) :: (spU c t).tail := rfl
theorem splitK_sp (c : UInt8) : ∀ l : List UInt8, Lib.splitK [c] 0 (Lib.count l [c]) l = spU c l
  | [] => by rw [Lib.count_one]; rfl
  | x :: l => by
    have ih := splitK_sp c l
    rw [spU_cons]
    by_cases e : x = c
    · subst e
      rw [if_pos rfl, Lib.count_cons_eq, Nat.add_comm, ← ih]
      have hix : Lib.index (x :: l) [x] = 0 := by rw [Lib.index]; simp [List.isPrefixOf]
      show (if Lib.index (x :: l) [x] == -1 then [x :: l] else (x :: l).take ((Lib.index (x :: l) [x]).toNat + 0) :: Lib.splitK [x] 0 (Lib.count l [x]) ((x :: l).drop ((Lib.index (x :: l) [x]).toNat + 1))) = _
      rw [hix]
      rfl
    · have hp : ([c] : List UInt8).isPrefixOf (x :: l) = false := by simp [List.isPrefixOf, Ne.symm e]
      have hix : Lib.index (x :: l) [c] = if Lib.index l [c] == -1 then -1 else Lib.index l [c] + 1 := by rw [Lib.index, hp]; simp
      rw [if_neg e, Lib.count_cons_ne x c l e, ← ih]
      cases hk : Lib.count l [c] with
      | zero => rfl
      | succ k =>
        show (if Lib.index (x :: l) [c] == -1 then [x :: l] else (x :: l).take ((Lib.index (x :: l) [c]).toNat + 0) :: Lib.splitK [c] 0 k ((x :: l).drop ((Lib.index (x :: l) [c]).toNat + 1))) = (x :: (if Lib.index l [c] == -1 then [l] else l.take ((Lib.index l [c]).toNat + 0) :: Lib.splitK [c] 0 k (l.drop ((Lib.index l [c]).toNat + 1))).headD []) :: (if Lib.index l [c] == -1 then [l] else l.take ((Lib.index l [c]).toNat + 0) :: Lib.splitK [c] 0 k (l.drop ((Lib.index l [c]).toNat + 1))).tail
        by_cases hm : Lib.index l [c] = -1
        · rw [hix]; simp [hm]
        · have hge := Lib.index_ge l [c]
          obtain ⟨j, hj⟩ : ∃ j : Nat, Lib.index l [c] = j := ⟨(Lib.index l [c]).toNat, by omega⟩
          have h1 : ¬ (Lib.index l [c] == -1) = true := fun z => hm (beq_iff_eq.1 z)
          have h2 : Lib.index (x :: l) [c] = ((j + 1 : Nat) : Int) := by rw [hix, if_neg h1, hj]; omega
          have h3 : ¬ (Lib.index (x :: l) [c] == -1) = true := fun z => by have := beq_iff_eq.1 z; omega
          rw [if_neg h3, if_neg h1, h2, hj]
          simp
theorem spU_I {c : Int} (hc : 0 ≤ c ∧ c ≤ 255) : ∀ {t : List Int}, isB t → spU (UInt8.ofNat c.toNat) (t.map (fun n => UInt8.ofNat n.toNat)) = (spI c t).map (fun p => p.map (fun n => UInt8.ofNat n.toNat))
  | [], _ => rfl
  | x :: t, h => by
    have ih := spU_I hc (t := t) (fun y hy => h y (List.mem_cons_of_mem _ hy))
    have hx := h x List.mem_cons_self
    have e : UInt8.ofNat x.toNat = UInt8.ofNat c.toNat ↔ x = c := by
      constructor
      · intro q
        have q2 := congrArg UInt8.toNat q
        simp only [UInt8.toNat_ofNat'] at q2
        omega
      · intro q; rw [q]
    rw [List.map_cons, spU_cons, spI_cons, ih]
    by_cases q : x = c
    · rw [if_pos (e.2 q), if_pos q]; rfl
    · rw [if_neg (fun z => q (e.1 z)), if_neg q]
      have hne := spI_ne c t
      generalize spI c t = s at *
      cases s with
      | nil => exact absurd rfl hne
      | cons a r => rfl
theorem pieces_eq {t : List Int} {c : Int} (hb : isB t) (hc : 0 ≤ c ∧ c ≤ 255) : Lib.splitB (bytesOf [c]) 0 (Lib.countB (bytesOf t) (bytesOf [c])) (bytesOf t) = (spI c t).map bytesOf := by
  have inj : ∀ {a b : List ByteArray}, a.map (·.data.toList) = b.map (·.data.toList) → a = b := fun {a b} h => by
    have q := congrArg (List.map (fun l : List UInt8 => (⟨l.toArray⟩ : ByteArray))) h
    rw [List.map_map, List.map_map] at q
    have hid : ((fun l : List UInt8 => (⟨l.toArray⟩ : ByteArray)) ∘ (fun s : ByteArray => s.data.toList)) = id := by funext s; rfl
    rw [hid, List.map_id, List.map_id] at q
    exact q
  apply inj
  rw [Lib.splitB_data, List.map_map]
  have e1 : (bytesOf [c]).data.toList = [UInt8.ofNat c.toNat] := bytesOf_data [c]
  have e2 : Lib.countB (bytesOf t) (bytesOf [c]) = Lib.count (t.map (fun n => UInt8.ofNat n.toNat)) [UInt8.ofNat c.toNat] := by
    show Lib.count (bytesOf t).data.toList (bytesOf [c]).data.toList = _
    rw [e1, bytesOf_data]
  rw [e1, e2, bytesOf_data, splitK_sp, spU_I hc hb]
  exact List.map_congr_left fun p _ => (bytesOf_data p).symm
theorem spl_ok (hE : Env W) (t : List Int) (c : Int) (hb : isB t) (hc : 0 ≤ c ∧ c ≤ 255) (hl : t.length ≤ 4000) :
    ACalls Tryd.prog W 13 #[.string (bytesOf t), .string (bytesOf [c])] H (fun r H' => Ext H H' ∧ OwnK kS 9 W H' (fun b => H.bd ≤ b) r ((spI c t).map bytesOf)) := fun w hw => by
  obtain ⟨m, hm⟩ := (hE.on hw.below).ml
  have hs1 : 1 ≤ (bytesOf [c]).size := by rw [bytesOf_size]; exact Nat.le_refl _
  have hlen := Lib.splitB_all (bytesOf [c]) hs1 0 _ (bytesOf t) rfl
  have hcl := Lib.countB_le (bytesOf [c]) hs1 _ (bytesOf t) (Nat.le_refl _)
  rw [pieces_eq hb hc] at hlen
  refine Calls.mono (Any.strings_Split { splL with } splL.i9 (bytesOf t) (bytesOf [c]) m w (by rw [bytesOf_size]; omega) hm hs1) fun e w' he => ?_
  obtain ⟨rfl, rfl⟩ := he
  rw [pieces_eq hb hc, ← hlen]
  have hsz : ((spI c t).map bytesOf).length ≤ 4001 := by rw [hlen]; rw [bytesOf_size] at hcl; omega
  obtain ⟨H', g1, g2, g3⟩ := hw.grown (w' := w.alloc (.cells (((spI c t).map bytesOf).map Value.string).toArray 9)) (row := none) (e := 9) (sz := 1) (v := .slice (some ⟨w.heap.size, 0, none⟩) ((spI c t).map bytesOf).length ((spI c t).map bytesOf).length) (m := ((spI c t).map bytesOf).length) (cells := ((spI c t).map bytesOf).map Value.string)
    ⟨rfl, rfl, rfl, by simp, fun k hk _ => Below.heap_alloc _ _ _ hk⟩ (fun k hk => by cases hk) (fun u hu => by obtain ⟨s, _, rfl⟩ := List.mem_map.1 hu; rfl)
    ⟨by simp, .inr ⟨w.heap.size, _, _, rfl, hw.below.size, by show (w.heap.push _)[w.heap.size]? = _; rw [Array.getElem?_push, if_pos rfl], Nat.le_refl _, by simp only [maxLen]; omega, by simp, by simp; exact List.take_of_length_le (by simp)⟩⟩ (.inr rfl)
  refine ⟨_, H', rfl, g1, But.ext g2 (fun b e => by cases e), ((spI c t).map bytesOf).map (fun s => [Value.string s]), ⟨by simp, fun i x cs hx hcs => ?_⟩, ?_⟩
  · rw [List.getElem?_map, hx] at hcs
    cases hcs
    rfl
  · have ef : (((spI c t).map bytesOf).map (fun s => [Value.string s])).flatten = ((spI c t).map bytesOf).map Value.string := by
      generalize (spI c t).map bytesOf = l
      induction l with
      | nil => rfl
      | cons a l ih => simp [ih]
    rw [ef]
    exact g3.ok (fun b hb _ => hb.elim (fun e => by cases e) id)
end
end Go.Proofs.YteajnanbfkcdcaaDoor.VC
