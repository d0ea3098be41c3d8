/- Walks. -/
import Derived.Test.YtonpikcbmgmchaaVF2
set_option linter.unusedVariables false
set_option linter.unusedSimpArgs false
namespace Go.Proofs.Ytonpikcbmgmchaa.VC
open Go Go.RowKit
variable {W : World} {H : Hp}

/-! ### Rows of rows, marked -/
def offs (l : List (List Int)) (i : Nat) : Int := (List.range i).foldl (fun s t => s + ((l.getD t []).length : Int)) 0
theorem offs_succ {l : List (List Int)} {i : Nat} (hi : i < l.length) : offs l (i + 1) = offs l i + (l.getD i []).length := by
  unfold offs
  rw [List.range_succ, List.foldl_append]; rfl
theorem offs_le {l : List (List Int)} {B : Nat} (h : ∀ x ∈ l, x.length ≤ B) : ∀ i : Nat, i ≤ l.length → 0 ≤ offs l i ∧ offs l i ≤ (i * B : Nat)
  | 0, _ => by simp [offs]
  | i + 1, hi => by
    have h1 := offs_le h i (by omega)
    have h2 := h l[i] (List.getElem_mem (by omega))
    have e : l.getD i [] = l[i] := by simp [show i < l.length by omega]
    rw [offs_succ (by omega), e, Nat.succ_mul]
    omega
def sameLen (k l : List (List Int)) : Prop := k.length = l.length ∧ ∀ t, (k.getD t []).length = (l.getD t []).length
theorem sameLen.refl (l : List (List Int)) : sameLen l l := ⟨rfl, fun _ => rfl⟩
theorem sameLen.trans {a b c : List (List Int)} (h : sameLen a b) (k : sameLen b c) : sameLen a c := ⟨h.1.trans k.1, fun t => (h.2 t).trans (k.2 t)⟩
theorem sameLen.set {k l : List (List Int)} (h : sameLen k l) {i : Nat} {z x : List Int} (hz : k[(i : Int).toNat]? = some z) (hx : x.length = z.length) : sameLen (k.set (i : Int).toNat x) l := by
  rw [Int.toNat_natCast] at hz ⊢
  refine ⟨by simp [h.1], fun t => ?_⟩
  rw [← h.2 t]
  have hi := (List.getElem?_eq_some_iff.1 hz).1
  simp only [List.getD_eq_getElem?_getD]
  by_cases e : t = i
  · subst e; simp [hi, hx, ← (List.getElem?_eq_some_iff.1 hz).2]
  · rw [List.getElem?_set_ne (fun e' => e e'.symm)]
def heldL (q : Int) (l k : List (List Int)) (n : Nat) : Prop := ∀ i, i < n → ∀ j : Nat, j < (k.getD i []).length → (k.getD i []).getD j 0 = q + offs l i + (j : Int)
theorem heldL.step {q p : Int} {l k : List (List Int)} {i : Nat} {z x : List Int} (h : heldL q l k i) (hz : k[(i : Int).toNat]? = some z) (hp : p = q + offs l i) (hx : ∀ j : Nat, j < x.length → x.getD j 0 = p + (j : Int)) : heldL q l (k.set (i : Int).toNat x) (i + 1) := by
  rw [Int.toNat_natCast] at hz ⊢
  have hi := (List.getElem?_eq_some_iff.1 hz).1
  intro t ht j hj
  by_cases e : t = i
  · subst e
    have e2 : (k.set t x).getD t [] = x := by simp [List.getD_eq_getElem?_getD, hi]
    rw [e2] at hj ⊢
    rw [hx j hj, hp]
  · have e2 : (k.set i x).getD t [] = k.getD t [] := by
      simp only [List.getD_eq_getElem?_getD]
      rw [List.getElem?_set_ne (fun e' => e e'.symm)]
    rw [e2] at hj ⊢
    exact h t (by omega) j hj
/-! ### Enrolling -/
def lastE (p a : Int) (row : List Int) : Int := row.foldl (fun x m => (x - m) % p) a
theorem lastE_snoc {p a z : Int} {row : List Int} {j : Nat} (hz : row[(j : Int).toNat]? = some z) : lastE p a (row.take (j + 1)) = (lastE p a (row.take j) - z) % p := by
  rw [Int.toNat_natCast] at hz
  exact foldl_snoc0 _ _ hz
theorem lastE_in {p a : Int} (hp : 0 < p) (ha : 0 ≤ a ∧ a < p) (row : List Int) : 0 ≤ lastE p a row ∧ lastE p a row < p := by
  unfold lastE
  rcases List.eq_nil_or_concat row with rfl | ⟨r, z, rfl⟩
  · exact ha
  · simp only [List.concat_eq_append, List.foldl_append, List.foldl_cons, List.foldl_nil]
    exact emod_bd hp _
theorem sub_plus {p x m : Int} : (x - m + p) % p = (x - m) % p := by simp
def enrE (p : Int) (l : List (Int × Int)) (L : List (List Int)) (at_ : Int) (i : Nat) : List Int := L.getD i [] ++ [lastE p ((wts p (l.map Prod.fst) at_ (l.map Prod.fst).length).getD i 0 * (l.getD i (0, 0)).2 % p) (L.getD i [])]
def enrN (p : Int) (l : List (Int × Int)) (L : List (List Int)) (at_ : Int) (n : Nat) : List (List Int) := (List.range n).map (enrE p l L at_)
theorem enrN_succ (p : Int) (l : List (Int × Int)) (L : List (List Int)) (at_ : Int) (n : Nat) : enrN p l L at_ (n + 1) = enrN p l L at_ n ++ [enrE p l L at_ n] := by
  unfold enrN
  rw [List.range_succ, List.map_append]; rfl
def rowOk (n p : Int) (x : List Int) : Prop := (x.length : Int) = n - 1 ∧ elems p x
noncomputable instance (n p : Int) (x : List Int) : Decidable (rowOk n p x) := Classical.propDecidable _
def rowsOk (n p : Int) (L : List (List Int)) : Prop := ∀ j, j < L.length → rowOk n p (L.getD j [])
noncomputable instance (n p : Int) (L : List (List Int)) : Decidable (rowsOk n p L) := Classical.propDecidable _
def gdE (p : Int) (l : List (Int × Int)) (L : List (List Int)) (at_ : Int) : Prop := ((0 ≤ at_ ∧ at_ ≤ p - 1) ∧ (L.length : Int) = l.length) ∧ rowsOk l.length p L
noncomputable instance (p : Int) (l : List (Int × Int)) (L : List (List Int)) (at_ : Int) : Decidable (gdE p l L at_) := Classical.propDecidable _
noncomputable def en {α : Type} (p : Int) (l : List (Int × Int)) (L : List (List Int)) (at_ : Int) (a b c d : α) : α := if vS p l then if gdE p l L at_ then if (l.length : Int) ≠ 0 then d else c else b else a
noncomputable def enCode (p : Int) (l : List (Int × Int)) (L : List (List Int)) (at_ : Int) : Int := en p l L at_ 1 2 4 0
noncomputable def enRow (p : Int) (l : List (Int × Int)) (L : List (List Int)) (at_ : Int) : List (List Int) := en p l L at_ [] [] [] (enrN p l L at_ l.length)
theorem en1 {p : Int} {l : List (Int × Int)} {L : List (List Int)} {at_ : Int} (h : ¬ vS p l) : enCode p l L at_ = 1 ∧ enRow p l L at_ = [] := ⟨if_neg h, if_neg h⟩
theorem en2 {p : Int} {l : List (Int × Int)} {L : List (List Int)} {at_ : Int} (h : vS p l) (h2 : ¬ gdE p l L at_) : enCode p l L at_ = 2 ∧ enRow p l L at_ = [] := by
  unfold enCode enRow en
  rw [if_pos h, if_neg h2, if_pos h, if_neg h2]; exact ⟨rfl, rfl⟩
theorem en4 {p : Int} {l : List (Int × Int)} {L : List (List Int)} {at_ : Int} (h : vS p l) (h2 : gdE p l L at_) (h3 : (l.length : Int) = 0) : enCode p l L at_ = 4 ∧ enRow p l L at_ = [] := by
  unfold enCode enRow en
  rw [if_pos h, if_pos h2, if_neg (fun e => e h3), if_pos h, if_pos h2, if_neg (fun e => e h3)]; exact ⟨rfl, rfl⟩
theorem en0 {p : Int} {l : List (Int × Int)} {L : List (List Int)} {at_ : Int} (h : vS p l) (h2 : gdE p l L at_) (h3 : (l.length : Int) ≠ 0) : enCode p l L at_ = 0 ∧ enRow p l L at_ = enrN p l L at_ l.length := by
  unfold enCode enRow en
  rw [if_pos h, if_pos h2, if_pos h3, if_pos h, if_pos h2, if_pos h3]; exact ⟨rfl, rfl⟩
theorem elems_one {p a : Int} : elems p [a] ↔ 0 ≤ a ∧ a ≤ p - 1 := by
  constructor
  · intro h; simpa using h 0 (by simp)
  · intro h j hj
    obtain rfl : j = 0 := by simp at hj; exact hj
    simpa using h
theorem map_getD {l : List (Int × Int)} {i : Nat} : (l.map Prod.snd).getD i 0 = (l.getD i (0, 0)).2 := by
  simp only [List.getD_eq_getElem?_getD, List.getElem?_map]
  cases l[i]? <;> rfl
theorem en_short {p : Int} {l : List (Int × Int)} {L : List (List Int)} {at_ : Int} (hs : (enRow p l L at_).length = (enRow p l L at_).length) : (enRow p l L at_).length ≤ 1048576 ∧ ∀ x ∈ enRow p l L at_, x.length ≤ 1048576 := by
  unfold enRow en
  split
  · rename_i hv
    have h10 := hv.2.2.1
    rw [List.length_map] at h10
    split
    · rename_i hg
      split
      · refine ⟨by simp only [enrN, List.length_map, List.length_range]; omega, fun x hx => ?_⟩
        obtain ⟨i, hi, rfl⟩ := List.mem_map.1 hx
        have hi' : i < l.length := List.mem_range.1 hi
        have := (hg.2 i (by have := hg.1.2; omega)).1
        simp only [enrE, List.length_append, List.length_singleton]
        omega
      · exact ⟨Nat.zero_le _, fun x h => by cases h⟩
    · exact ⟨Nat.zero_le _, fun x h => by cases h⟩
  · exact ⟨Nat.zero_le _, fun x h => by cases h⟩
set_option maxRecDepth 100000 in
theorem markSS2_ok {v : Value} {l : List (List Int)} {ok : Nat → Prop} (ho : OwnD (kO 2 kI) 24 W H ok v l) (hl : (l.length ≤ 1048576 ∧ ∀ x ∈ l, x.length ≤ 1048576)) (q : Int) (hq : 0 ≤ q ∧ q ≤ 4194304) : ACalls Try.prog W 31 #[v, .int .i64 q] H (fun r H' => (∃ k, r = .int .i64 (q + offs l l.length) ∧ sameLen k l ∧ heldL q l k l.length ∧ OwnD (kO 2 kI) 24 W H' ok v k) ∧ But ok H H') := by
  refine ACalls.of (args := [v, .int .i64 q]) Try.func31 rfl rfl ?_
  have X0 := Ext.refl H
  have B0 := But.refl ok H
  have hmL := ho.rd.max
  refine AW.rs ?_
  refine AL.val rfl (.inl rfl) (HV.as rfl) ?_
  refine AL.nx ?_
  refine AW.seq ?_
  refine AW.rs ?_
  refine AL.val rfl (.inl rfl) (HV.as rfl) ?_
  refine AL.nx ?_
  refine AW.block ?_
  refine AW.loop (σ := Nat × Int × List (List Int)) (fun ⟨i, p, k⟩ => [(0, v), (4, .int .i64 0), (0, v), (1, .int .i64 p), (5, .int .i64 (i : Int))]) (fun ⟨i, p, k⟩ H' => i ≤ l.length ∧ p = q + offs l i ∧ sameLen k l ∧ heldL q l k i ∧ OwnD (kO 2 kI) 24 W H' ok v k ∧ But ok H H' ∧ True) (fun ⟨i, p, k⟩ => l.length - i) (0, q, l) ⟨Nat.zero_le _, by simp [offs], sameLen.refl l, fun i hi => absurd hi (Nat.not_lt_zero _), ho, B0, trivial⟩ ⟨rfl, rfl, rfl, rfl, rfl, trivial⟩ ?_
  rintro ⟨i, p, k⟩ H1 ⟨hi, hp, hk, hh, hoL, hB, _⟩
  have hkl : k.length = l.length := hk.1
  have hof := offs_le (B := 1048576) hl.2 i (by omega)
  refine AW.seq ?_
  refine AW.rs ?_
  refine AL.val rfl (.inl rfl) (HV.mv rfl) ?_
  refine AL.val rfl (.inl rfl) (HV.mv rfl) ?_
  refine AL.val rfl (.inl rfl) (HV.len Try.underlying36 rfl (rd_ofO hoL.rd).isSl) ?_
  refine AL.val rfl (.inl rfl) (HV.lti rfl rfl) ?_
  refine AL.nx ?_
  refine AW.ifd rfl (fun c2 => ?_) (fun c2 => ?_)
  · -- then
    refine AW.skip ?_
    refine nrm_and ?_
    refine AW.seq ?_
    refine AW.block ?_
    refine AW.reg ?_
    refine AL.val rfl (.inl rfl) (HV.mv rfl) ?_
    refine AL.val rfl (.inl rfl) (HV.mv rfl) ?_
    obtain ⟨g3, z4, cs5, hz6, hK7, hC8, hg9, hP10⟩ := OwnK.ix (q := (i : Int)) hoL.own sl36 (by omega) (by omega)
    have X11 := Ext.refl H1
    obtain ⟨v12, rfl, hr13⟩ := hK7
    have hO14 := hr13
    replace hr13 := hr13.rd
    have hm15 := hr13.max
    refine AL.val rfl (.inl rfl) (hP10 rfl rfl) ?_
    refine AL.val rfl (.inl rfl) (HV.ld rfl va24 (cells_first hC8 rfl)) ?_
    refine AL.val rfl (.inl rfl) (HV.mv rfl) ?_
    refine AL.w rfl (.inl rfl) (WV.call fn22 rfl (markS_ok p hO14 (by have q1 := hl.2 (l.getD i []) (by have e : l.getD i [] = l[i]'(by omega) := (by simp [show i < l.length by omega]); rw [e]; exact List.getElem_mem _); rw [← hk.2 i, (gd hz6 rfl : k.getD i [] = z4)] at q1; omega))) ?_
    rintro _ H16 ⟨k17, rfl, hk18, hh19, hx20, ho21⟩
    have hd22 := OwnD.mark (i := ((i : Int) : Int).toNat) kI_flat hoL hg9 (Cells.one hC8) (by omega) hx20 ho21
    have B24 := But.trans hB (But.mono hx20 hd22.2)
    have ho25 := hd22.1
    refine AL.val rfl (.inl rfl) (HV.as rfl) ?_
    refine AL.nil ?_
    refine nrm_blk (nrm_and ?_)
    refine AW.reg ?_
    refine AL.val rfl (.inl rfl) (HV.mv rfl) ?_
    refine AL.val rfl (.inl rfl) (HV.add rfl rfl (by omega)) ?_
    refine AL.val rfl (.inl rfl) (HV.as rfl) ?_
    refine AL.nil ?_
    refine nrm_and ?_
    exact ⟨(i + 1, (p + (z4.length : Int)), (k.set ((i : Int) : Int).toNat k17)), ⟨by omega, by rw [offs_succ (by omega), ← hk.2 i, (gd hz6 rfl : k.getD i [] = z4)]; omega, sameLen.set hk hz6 hk18, heldL.step hh hz6 hp hh19, ho25, B24, trivial⟩, by first | omega | (dsimp only; omega), ⟨rfl, rfl, rfl, rfl, rfl, trivial⟩⟩
  · -- else
    refine AW.exit ?_
    refine ex_and (ex_and (ex_blk ?_))
    refine nrm_and ?_
    refine AW.rs ?_
    refine AL.val rfl (.inl rfl) (HV.mv rfl) ?_
    refine AL.val rfl (.inl rfl) (HV.as rfl) ?_
    refine AL.nx ?_
    refine AW.ret ?_
    refine post_one rfl rfl ?_ (.inr rfl)
    exact ⟨⟨k, by obtain rfl : i = l.length := (by omega); exact congrArg (Value.int .i64) hp, hk, by obtain rfl : i = l.length := (by omega); exact hh, hoL⟩, hB⟩

set_option maxRecDepth 100000 in
theorem heldSS_ok {v : Value} {k l : List (List Int)} {ok : Nat → Prop} (q : Int) (hr : RdK (kR kI) W H ok v k) (hq : 0 ≤ q ∧ q ≤ 4194304) (hl : (l.length ≤ 1048576 ∧ ∀ x ∈ l, x.length ≤ 1048576)) (hk : sameLen k l) (hh : heldL q l k l.length) : ACalls Try.prog W 37 #[v, .int .i64 q] H (fun r H' => r = .int .i64 (q + offs l l.length) ∧ Ext H H') := by
  refine ACalls.of (args := [v, .int .i64 q]) Try.func37 rfl rfl ?_
  have X0 := Ext.refl H
  have hm1 := hr.max
  have hkl : k.length = l.length := hk.1
  refine AW.rs ?_
  refine AL.val rfl (.inl rfl) (HV.as rfl) ?_
  refine AL.nx ?_
  refine AW.seq ?_
  refine AW.rs ?_
  refine AL.val rfl (.inl rfl) (HV.as rfl) ?_
  refine AL.nx ?_
  refine AW.block ?_
  refine AW.loop (σ := Nat × Int) (fun ⟨i, p⟩ => [(0, v), (1, .int .i64 p), (5, .int .i64 (i : Int))]) (fun ⟨i, p⟩ H' => Ext H H' ∧ i ≤ l.length ∧ p = q + offs l i ∧ True) (fun ⟨i, p⟩ => l.length - i) (0, q) ⟨X0, Nat.zero_le _, by simp [offs], trivial⟩ ⟨rfl, rfl, rfl, trivial⟩ ?_
  rintro ⟨i, p⟩ H2 ⟨X3, hi, hp, _⟩
  have hof := offs_le (B := 1048576) hl.2 i (by omega)
  refine AW.seq ?_
  refine AW.rs ?_
  refine AL.val rfl (.inl rfl) (HV.mv rfl) ?_
  refine AL.val rfl (.inl rfl) (HV.mv rfl) ?_
  refine AL.val rfl (.inl rfl) (HV.len Try.underlying36 rfl hr.isSl) ?_
  refine AL.val rfl (.inl rfl) (HV.lti rfl rfl) ?_
  refine AL.nx ?_
  refine AW.ifd rfl (fun c4 => ?_) (fun c4 => ?_)
  · -- then
    refine AW.skip ?_
    refine nrm_and ?_
    refine AW.seq ?_
    refine AW.block ?_
    refine AW.rs ?_
    refine AL.val rfl (.inl rfl) (HV.mv rfl) ?_
    refine AL.val rfl (.inl rfl) (HV.mv rfl) ?_
    obtain ⟨p5, z6, cs7, hz8, hK9, hC10, hP11⟩ := RdK.ix (q := (i : Int)) hr sl36 (by omega) (by omega)
    obtain ⟨v12, rfl, hr13⟩ := hK9
    have hm14 := hr13.max
    refine AL.val rfl (.inl rfl) (hP11 rfl rfl) ?_
    refine AL.val rfl (.inl rfl) (HV.ld rfl va24 (cells_first (hC10.ext X3) rfl)) ?_
    refine AL.val rfl (.inl rfl) (HV.mv rfl) ?_
    refine AL.w rfl (.inl rfl) (WV.call fn23 rfl (heldS_ok p (hr13.ext X3) (by have q1 := hl.2 (l.getD i []) (by have e : l.getD i [] = l[i]'(by omega) := (by simp [show i < l.length by omega]); rw [e]; exact List.getElem_mem _); rw [← hk.2 i, (gd hz8 rfl : k.getD i [] = z6)] at q1; omega) (by have q1 := hh i (by omega); rw [(gd hz8 rfl : k.getD i [] = z6), ← hp] at q1; exact q1))) ?_
    rintro _ H15 ⟨rfl, hx16⟩
    have X17 := Ext.trans X3 hx16
    refine AL.val rfl (.inl rfl) (HV.as rfl) ?_
    refine AL.nx ?_
    refine AW.rs ?_
    refine AL.val rfl (.inl rfl) (HV.mv rfl) ?_
    refine AL.val rfl (.inl rfl) (HV.lti rfl rfl) ?_
    refine AL.nx ?_
    refine AW.ifd rfl (fun c18 => ?_) (fun c18 => ?_)
    · -- then
      refine AW.rs ?_
      refine AL.val rfl (.inl rfl) (HV.as rfl) ?_
      refine AL.nx ?_
      refine AW.ret ?_
      refine ret_blk (ret_and (ret_and (ret_blk (ret_and ?_))))
      refine post_one rfl rfl ?_ (.inr rfl)
      exfalso; omega
    · -- else
      refine AW.skip ?_
      refine nrm_blk (nrm_and ?_)
      refine AW.reg ?_
      refine AL.val rfl (.inl rfl) (HV.mv rfl) ?_
      refine AL.val rfl (.inl rfl) (HV.add rfl rfl (by omega)) ?_
      refine AL.val rfl (.inl rfl) (HV.as rfl) ?_
      refine AL.nil ?_
      refine nrm_and ?_
      exact ⟨(i + 1, (p + (z6.length : Int))), ⟨X17, by omega, by rw [offs_succ (by omega), ← hk.2 i, (gd hz8 rfl : k.getD i [] = z6)]; omega, trivial⟩, by first | omega | (dsimp only; omega), ⟨rfl, rfl, rfl, trivial⟩⟩
  · -- else
    refine AW.exit ?_
    refine ex_and (ex_and (ex_blk ?_))
    refine nrm_and ?_
    refine AW.rs ?_
    refine AL.val rfl (.inl rfl) (HV.mv rfl) ?_
    refine AL.val rfl (.inl rfl) (HV.as rfl) ?_
    refine AL.nx ?_
    refine AW.ret ?_
    refine post_one rfl rfl ?_ (.inr rfl)
    exact ⟨by obtain rfl : i = l.length := (by omega); exact congrArg (Value.int .i64) hp, X3⟩

set_option maxRecDepth 100000 in
theorem cloneI_ok {v : Value} {l : List Int} {ok : Nat → Prop} (hr : RdK kI W H ok v l) (hl : l.length ≤ 1048576) : ACalls Try.prog W 95 #[v] H (fun r H' => Ext H H' ∧ OwnK kI 2 W H' (fun b => H.bd ≤ b) r l) := by
  refine ACalls.of (args := [v]) Try.func95 rfl rfl ?_
  have X0 := Ext.refl H
  have hm1 := hr.max
  refine AW.rs ?_
  refine AL.val rfl (.inl rfl) (HV.as rfl) ?_
  refine AL.nx ?_
  refine AW.seq ?_
  refine AW.rs ?_
  refine AL.val rfl (.inl rfl) (HV.mv rfl) ?_
  refine AL.val rfl (.inl rfl) (HV.nne Try.underlying24 hr.isSl rfl rfl) ?_
  refine AL.nx ?_
  refine AW.cond rfl (fun c2 => ?_) (fun c2 => ?_)
  · -- then
    refine AW.rs ?_
    refine AL.val rfl (.inl rfl) (HV.as rfl) ?_
    refine AL.nx ?_
    refine AW.ret ?_
    refine ret_and ?_
    refine post_one rfl rfl ?_ (.inr rfl)
    exact ⟨X0, by rw [nn_nil hr (by assumption)]; exact OwnK.nil _⟩
  · -- else
    refine AW.skip ?_
    refine nrm_and ?_
    refine AW.rs ?_
    have o3 := X0.bd
    refine AL.w rfl (.inl rfl) (WV.bsK (K := kI) (l := ([] : List Int)) (css := []) sl24 rfl rfl (by first | rfl | (simp [Instr.fill, Value.cells, kI, kB, kU, kS, Kd.sc]; done) | (simp [Instr.fill, Value.cells, kI, kB, kU, kS, Kd.sc, rng1, rng2, rng3, rng4, kP])) rfl segs_nil) ?_
    rintro v4 H5 ⟨hx6, ho7⟩
    have X8 := Ext.trans X0 hx6
    refine AL.val rfl (.inl rfl) (HV.mv rfl) ?_
    have X10 := Ext.refl H5
    refine AL.w rfl (.inl rfl) (WV.apk sl24 rfl rfl ho7 (hr.lo.ext X8) (by simp; omega) (by simp; omega) (fun b hb _ e => by have h1 : H.bd ≤ b := (ho7.blk b e).1; have h2 : b < H.bd := hb; have h3 := o3; omega)) ?_
    rintro v11 H12 ⟨hx13, ho14, hb15⟩
    have ho16 := ho14.narrow (ok' := fun b => H.bd ≤ b) kI_flat (fun b q => (hb15 b q).elim (fun e => (ho7.blk b e).1) (fun e => Nat.le_trans X8.bd e))
    have X17 := Ext.thru X8 hx13 (fun b hb => Nat.le_trans o3 (ho7.blk b hb).1)
    refine AL.val rfl (.inl rfl) (HV.as rfl) ?_
    refine AL.nx ?_
    refine AW.ret ?_
    refine post_one rfl rfl ?_ (.inr rfl)
    exact ⟨X17, ho16.okk (fun b hb _ => Nat.le_trans o3 hb)⟩

set_option maxRecDepth 100000 in
theorem l00Own_ok {v : Value} {l : List Int} {ok : Nat → Prop} (hr : RdK kI W H ok v l) (hl : l.length ≤ 1048576) : ACalls Try.prog W 89 #[v] H (fun r H' => Ext H H' ∧ OwnK kI 2 W H' (fun b => H.bd ≤ b) r l) := by
  refine ACalls.of (args := [v]) Try.func89 rfl rfl ?_
  have X0 := Ext.refl H
  have hm1 := hr.max
  refine AW.rs ?_
  refine AL.val rfl (.inl rfl) (HV.as rfl) ?_
  refine AL.nx ?_
  refine AW.rs ?_
  have o2 := X0.bd
  refine AL.w rfl (.inl rfl) (WV.bsK (K := kI) (l := ([] : List Int)) (css := []) sl24 rfl rfl (by first | rfl | (simp [Instr.fill, Value.cells, kI, kB, kU, kS, Kd.sc]; done) | (simp [Instr.fill, Value.cells, kI, kB, kU, kS, Kd.sc, rng1, rng2, rng3, rng4, kP])) rfl segs_nil) ?_
  rintro v3 H4 ⟨hx5, ho6⟩
  have X7 := Ext.trans X0 hx5
  refine AL.val rfl (.inl rfl) (HV.mv rfl) ?_
  have X9 := Ext.refl H4
  refine AL.w rfl (.inl rfl) (WV.apk sl24 rfl rfl ho6 (hr.lo.ext X7) (by simp; omega) (by simp; omega) (fun b hb _ e => by have h1 : H.bd ≤ b := (ho6.blk b e).1; have h2 : b < H.bd := hb; have h3 := o2; omega)) ?_
  rintro v10 H11 ⟨hx12, ho13, hb14⟩
  have ho15 := ho13.narrow (ok' := fun b => H.bd ≤ b) kI_flat (fun b q => (hb14 b q).elim (fun e => (ho6.blk b e).1) (fun e => Nat.le_trans X7.bd e))
  have X16 := Ext.thru X7 hx12 (fun b hb => Nat.le_trans o2 (ho6.blk b hb).1)
  refine AL.val rfl (.inl rfl) (HV.as rfl) ?_
  refine AL.nx ?_
  refine AW.ret ?_
  refine post_one rfl rfl ?_ (.inr rfl)
  exact ⟨X16, ho15.okk (fun b hb _ => Nat.le_trans o2 hb)⟩

set_option maxRecDepth 100000 in
theorem en1_ok {v : Value} {l : List Int} {ok : Nat → Prop} (hr : RdK kI W H ok v l) {b b2 : Nat} {n p : Int} (hn : 0 ≤ n ∧ n ≤ 1048576) (hb : At W H b ⟨3, [.int .i64 n], 1⟩) (hb2 : At W H b2 ⟨2, [.int .i64 p], 1⟩) (hpr : primeI p) : ACalls Try.prog W 92 #[v, .pointer (some ⟨b, 0, none⟩), .pointer (some ⟨b2, 0, none⟩)] H (fun r H' => r = .bool (!decide (rowOk n p l)) ∧ Ext H H') := by
  refine ACalls.of (args := [v, .pointer (some ⟨b, 0, none⟩), .pointer (some ⟨b2, 0, none⟩)]) Try.func92 rfl rfl ?_
  have X0 := Ext.refl H
  have hm1 := hr.max
  refine AW.rs ?_
  refine AL.val rfl (.inl rfl) (HV.as rfl) ?_
  refine AL.nx ?_
  refine AW.rs ?_
  refine AL.val rfl (.inl rfl) (HV.mv rfl) ?_
  refine AL.val rfl (.inl rfl) (HV.len Try.underlying24 rfl hr.isSl) ?_
  refine AL.val rfl (.inl rfl) (HV.ld rfl va3 (at_cell hb rfl)) ?_
  refine AL.val rfl (.inl rfl) (HV.sub rfl rfl (by omega)) ?_
  refine AL.val rfl (.inl rfl) (HV.nei rfl rfl) ?_
  refine AL.val rfl (.inl rfl) (HV.mv rfl) ?_
  by_cases c2 : (l.length : Int) ≠ (n - 1)
  · -- true
    have c2_ : decide ((l.length : Int) ≠ (n - 1)) = true := decide_eq_true c2
    rw [c2_]
    refine AL.off rfl rfl (by decide) rfl ?_
    refine AL.off rfl rfl (by decide) rfl ?_
    refine AL.off rfl rfl (by decide) rfl ?_
    refine AL.off rfl rfl (by decide) rfl ?_
    refine AL.val rfl (.inl rfl) (HV.pickT rfl rfl) ?_
    refine AL.val rfl (.inl rfl) (HV.as rfl) ?_
    refine AL.nx ?_
    refine AW.ret ?_
    refine post_one rfl rfl ?_ (.inr rfl)
    exact ⟨by rw [decide_eq_false (fun h => c2 h.1)]; rfl, X0⟩
  · -- false
    have c2_ : decide ((l.length : Int) ≠ (n - 1)) = false := decide_eq_false c2
    rw [c2_]
    refine AL.val rfl (.inr ⟨_, _, _, rfl, rfl, rfl⟩) (HV.ld rfl va2 (at_cell hb2 rfl)) ?_
    refine AL.val rfl (.inr ⟨_, _, _, rfl, rfl, rfl⟩) (HV.mv rfl) ?_
    refine AL.w rfl (.inr ⟨_, _, _, rfl, rfl, rfl⟩) (WV.call fn90 rfl (areEl_ok p hr)) ?_
    rintro _ H3 ⟨rfl, hx4⟩
    have X5 := Ext.trans X0 hx4
    have hb6 := hb.ext hx4
    have hb7 := hb2.ext hx4
    refine AL.val rfl (.inr ⟨_, _, _, rfl, rfl, rfl⟩) (HV.not rfl) ?_
    refine AL.val rfl (.inl rfl) (HV.pickF rfl rfl) ?_
    refine AL.val rfl (.inl rfl) (HV.as rfl) ?_
    refine AL.nx ?_
    refine AW.ret ?_
    refine post_one rfl rfl ?_ (.inr rfl)
    exact ⟨congrArg (fun z => Value.bool (!z)) (decide_eq_decide.2 ⟨fun h => ⟨by omega, h.2⟩, fun h => ⟨hpr, h.2⟩⟩), X5⟩

set_option maxRecDepth 100000 in
theorem ixEn_ok {v : Value} {l : List (List Int)} {ok : Nat → Prop} (hr : RdK (kR kI) W H ok v l) {b b2 : Nat} {n p : Int} (hn : 0 ≤ n ∧ n ≤ 1048576) (hb : At W H b ⟨3, [.int .i64 n], 1⟩) (hb2 : At W H b2 ⟨2, [.int .i64 p], 1⟩) (hpr : primeI p) : ACalls Try.prog W 124 #[v, (.func (.func 92) #[] #[.pointer (some ⟨b, 0, none⟩), .pointer (some ⟨b2, 0, none⟩)])] H (fun r H' => (∃ i : Int, r = .int .i64 i ∧ (0 ≤ i ↔ ¬ rowsOk n p l)) ∧ Ext H H') := by
  refine ACalls.of (args := [v, (.func (.func 92) #[] #[.pointer (some ⟨b, 0, none⟩), .pointer (some ⟨b2, 0, none⟩)])]) Try.func124 rfl rfl ?_
  have X0 := Ext.refl H
  have hm1 := hr.max
  refine AW.rs ?_
  refine AL.val rfl (.inl rfl) (HV.as rfl) ?_
  refine AL.nx ?_
  refine AW.seq ?_
  refine AW.rs ?_
  refine AL.val rfl (.inl rfl) (HV.mv rfl) ?_
  refine AL.val rfl (.inl rfl) (HV.len Try.underlying36 rfl hr.isSl) ?_
  refine AL.val rfl (.inl rfl) (HV.mv rfl) ?_
  refine AL.nx ?_
  refine AW.block ?_
  refine AW.loop (σ := Nat) (fun i => [(0, v), (1, (.func (.func 92) #[] #[.pointer (some ⟨b, 0, none⟩), .pointer (some ⟨b2, 0, none⟩)])), (7, .int .i64 (l.length : Int)), (8, .int .i64 (i : Int))]) (fun i H' => Ext H H' ∧ At W H' b ⟨3, [.int .i64 n], 1⟩ ∧ At W H' b2 ⟨2, [.int .i64 p], 1⟩ ∧ i ≤ l.length ∧ (∀ j, j < i → rowOk n p (l.getD j [])) ∧ True) (fun i => l.length - i) 0 ⟨X0, hb, hb2, Nat.zero_le _, fun j hj => absurd hj (Nat.not_lt_zero _), trivial⟩ ⟨rfl, rfl, rfl, rfl, trivial⟩ ?_
  rintro i H2 ⟨X3, hb4, hb5, hi, he, _⟩
  refine AW.rs ?_
  refine AL.val rfl (.inl rfl) (HV.lti rfl rfl) ?_
  refine AL.nx ?_
  refine AW.seq ?_
  refine AW.ifd rfl (fun c6 => ?_) (fun c6 => ?_)
  · -- then
    refine AW.skip ?_
    refine nrm_and ?_
    refine AW.seq ?_
    refine AW.block ?_
    refine AW.rs ?_
    refine AL.val rfl (.inl rfl) (HV.mv rfl) ?_
    refine AL.val rfl (.inl rfl) (HV.as rfl) ?_
    refine AL.nx ?_
    refine AW.rs ?_
    refine AL.val rfl (.inl rfl) (HV.mv rfl) ?_
    refine AL.val rfl (.inl rfl) (HV.mv rfl) ?_
    refine AL.val rfl (.inl rfl) (HV.mv rfl) ?_
    obtain ⟨p7, z8, cs9, hz10, hK11, hC12, hP13⟩ := RdK.ix (q := (i : Int)) hr sl36 (by omega) (by omega)
    obtain ⟨v14, rfl, hr15⟩ := hK11
    have hm16 := hr15.max
    refine AL.val rfl (.inl rfl) (hP13 rfl rfl) ?_
    refine AL.val rfl (.inl rfl) (HV.ld rfl va24 (cells_first (hC12.ext X3) rfl)) ?_
    refine AL.w rfl (.inl rfl) (WV.callv fn92 rfl rfl (en1_ok (hr15.ext X3) hn hb4 hb5 hpr)) ?_
    rintro _ H17 ⟨rfl, hx18⟩
    have X19 := Ext.trans X3 hx18
    have hb20 := hb4.ext hx18
    have hb21 := hb5.ext hx18
    refine AL.nx ?_
    refine AW.ifn rfl (fun c22 => ?_) (fun c22 => ?_)
    · -- then
      refine AW.rs ?_
      refine AL.val rfl (.inl rfl) (HV.mv rfl) ?_
      refine AL.val rfl (.inl rfl) (HV.as rfl) ?_
      refine AL.nx ?_
      refine AW.ret ?_
      refine ret_blk (ret_and (ret_and (ret_blk (ret_and ?_))))
      refine post_one rfl rfl ?_ (.inr rfl)
      exact ⟨⟨_, rfl, fun _ h => by have q := h i (by omega); have g15 : l.getD i [] = z8 := gd hz10 (by omega); rw [g15] at q; exact c22 q, fun _ => by omega⟩, X19⟩
    · -- else
      refine AW.skip ?_
      refine nrm_blk (nrm_and ?_)
      refine AW.reg ?_
      refine AL.val rfl (.inl rfl) (HV.add rfl rfl (by omega)) ?_
      refine AL.val rfl (.inl rfl) (HV.mv rfl) ?_
      refine AL.nil ?_
      refine nrm_and ?_
      exact ⟨i + 1, ⟨X19, hb20, hb21, by omega, fun j hj => by
      rcases Nat.lt_or_ge j i with h1 | h1
      · exact he j h1
      · obtain rfl : j = i := by omega
        have g15 : l.getD j [] = z8 := gd hz10 (by omega); rw [g15]; exact c22, trivial⟩, by first | omega | (dsimp only; omega), ⟨rfl, rfl, rfl, rfl, trivial⟩⟩
  · -- else
    refine AW.exit ?_
    refine ex_and (ex_and (ex_blk ?_))
    refine nrm_and ?_
    refine AW.rs ?_
    refine AL.val rfl (.inl rfl) (HV.as rfl) ?_
    refine AL.nx ?_
    refine AW.ret ?_
    refine post_one rfl rfl ?_ (.inr rfl)
    exact ⟨⟨_, rfl, fun h => absurd h (by decide), fun h => absurd (fun j hj => he j (by omega)) h⟩, X3⟩

set_option maxRecDepth 100000 in
theorem coEn_ok {v : Value} {l : List (List Int)} {ok : Nat → Prop} (hr : RdK (kR kI) W H ok v l) {b b2 : Nat} {n p : Int} (hn : 0 ≤ n ∧ n ≤ 1048576) (hb : At W H b ⟨3, [.int .i64 n], 1⟩) (hb2 : At W H b2 ⟨2, [.int .i64 p], 1⟩) (hpr : primeI p) : ACalls Try.prog W 91 #[v, (.func (.func 92) #[] #[.pointer (some ⟨b, 0, none⟩), .pointer (some ⟨b2, 0, none⟩)])] H (fun r H' => r = .bool (decide (¬ rowsOk n p l)) ∧ Ext H H') := by
  refine ACalls.of (args := [v, (.func (.func 92) #[] #[.pointer (some ⟨b, 0, none⟩), .pointer (some ⟨b2, 0, none⟩)])]) Try.func91 rfl rfl ?_
  have X0 := Ext.refl H
  have hm1 := hr.max
  refine AW.rs ?_
  refine AL.val rfl (.inl rfl) (HV.as rfl) ?_
  refine AL.nx ?_
  refine AW.rs ?_
  refine AL.val rfl (.inl rfl) (HV.mv rfl) ?_
  refine AL.val rfl (.inl rfl) (HV.mv rfl) ?_
  refine AL.w rfl (.inl rfl) (WV.call fn124 rfl (ixEn_ok hr hn hb hb2 hpr)) ?_
  rintro _ H2 ⟨⟨q4, rfl, he5⟩, hx3⟩
  have X6 := Ext.trans X0 hx3
  have hb7 := hb.ext hx3
  have hb8 := hb2.ext hx3
  refine AL.val rfl (.inl rfl) (HV.gei rfl rfl) ?_
  refine AL.val rfl (.inl rfl) (HV.as rfl) ?_
  refine AL.nx ?_
  refine AW.ret ?_
  refine post_one rfl rfl ?_ (.inr rfl)
  exact ⟨congrArg Value.bool (decide_eq_decide.2 he5), X6⟩

set_option maxRecDepth 100000 in
theorem specEn_ok {v vm : Value} {l : List (Int × Int)} {m : List (List Int)} {ok ok2 : Nat → Prop} (p : Int) (hr : RdK (kP kI kI) W H ok v l) (x : Int) (hr2 : RdK (kR kI) W H ok2 vm m) (hl : l.length ≤ 1048576) : ACalls Try.prog W 35 #[.int .i64 p, v, .int .i64 x, vm] H (fun r H' => (∃ v k, r = .tuple #[v, .int .i64 (enCode p l m x)] ∧ k = enRow p l m x ∧ OwnD (kO 2 kI) 24 W H' (fun b => H.bd ≤ b) v k) ∧ Ext H H') := by
  refine ACalls.of (args := [.int .i64 p, v, .int .i64 x, vm]) Try.func35 rfl rfl ?_
  have X0 := Ext.refl H
  have hm1 := hr.max
  have hm2 := hr2.max
  refine AW.rs ?_
  refine AL.val rfl (.inl rfl) (HV.as rfl) ?_
  refine AL.val rfl (.inl rfl) (HV.as rfl) ?_
  refine AL.nx ?_
  refine AW.seq ?_
  refine AW.rs ?_
  refine AL.val rfl (.inl rfl) (HV.mv rfl) ?_
  refine AL.val rfl (.inl rfl) (HV.mv rfl) ?_
  refine AL.w rfl (.inl rfl) (WV.call fn67 rfl (specVS_ok hr p hl)) ?_
  rintro _ H3 ⟨rfl, hx4⟩
  have X5 := Ext.trans X0 hx4
  refine AL.val rfl (.inl rfl) (HV.not rfl) ?_
  refine AL.nx ?_
  refine AW.ifn rfl (fun c6 => ?_) (fun c6 => ?_)
  · -- then
    refine AW.rs ?_
    have X7 := Ext.refl H3
    have o8 := X5.bd
    have o9 := X7.bd
    refine AL.w rfl (.inl rfl) (WV.bsK (K := (kO 2 kI)) (l := ([] : List (List Int))) (css := []) sl36 rfl rfl (by first | rfl | (simp [Instr.fill, Value.cells, kI, kB, kU, kS, Kd.sc]; done) | (simp [Instr.fill, Value.cells, kI, kB, kU, kS, Kd.sc, rng1, rng2, rng3, rng4, kP])) rfl segs_nil) ?_
    rintro v10 H11 ⟨hx12, ho13⟩
    have X14 := Ext.trans X5 hx12
    have X15 := Ext.trans X7 hx12
    have ho16 := ho13.deep0
    refine AL.val rfl (.inl rfl) (HV.as rfl) ?_
    refine AL.val rfl (.inl rfl) (HV.as rfl) ?_
    refine AL.nx ?_
    refine AW.ret ?_
    refine ret_and ?_
    refine post_two rfl rfl rfl ?_ (.inr rfl)
    have hq_ := en1 (p := p) (l := l) (L := m) (at_ := x) c6; exact ⟨⟨_, [], by rw [hq_.1], hq_.2.symm, ho16.okk (fun b hb _ => Nat.le_trans o8 hb)⟩, X14⟩
  · -- else
    refine AW.skip ?_
    refine nrm_and ?_
    refine AW.rs ?_
    refine AL.val rfl (.inl rfl) (HV.mv rfl) ?_
    refine AL.val rfl (.inl rfl) (HV.len Try.underlying27 rfl hr.isSl) ?_
    refine AL.val rfl (.inl rfl) (HV.as rfl) ?_
    refine AL.nx ?_
    refine AW.rs ?_
    refine AL.val rfl (.inl rfl) (HV.mv rfl) ?_
    refine AL.val rfl (.inl rfl) (HV.mv rfl) ?_
    refine AL.val rfl (.inl rfl) (HV.sub rfl rfl (by have := (by assumption : vS p l).1.1; omega)) ?_
    refine AL.w rfl (.inl rfl) (WV.call fn68 rfl (l00In_ok (W := W) x 0 (p - 1))) ?_
    rintro _ H18 ⟨rfl, hx19⟩
    have X20 := Ext.trans X5 hx19
    refine AL.val rfl (.inl rfl) (HV.mv rfl) ?_
    by_cases c21 : 0 ≤ x ∧ x ≤ (p - 1)
    · -- true
      have c21_ : decide (0 ≤ x ∧ x ≤ (p - 1)) = true := decide_eq_true c21
      rw [c21_]
      refine AL.val rfl (.inr ⟨_, _, _, rfl, rfl, rfl⟩) (HV.mv rfl) ?_
      refine AL.val rfl (.inr ⟨_, _, _, rfl, rfl, rfl⟩) (HV.len Try.underlying36 rfl hr2.isSl) ?_
      refine AL.val rfl (.inr ⟨_, _, _, rfl, rfl, rfl⟩) (HV.mv rfl) ?_
      refine AL.val rfl (.inr ⟨_, _, _, rfl, rfl, rfl⟩) (HV.eqi rfl rfl) ?_
      refine AL.val rfl (.inl rfl) (HV.pickT rfl rfl) ?_
      refine AL.val rfl (.inl rfl) (HV.as rfl) ?_
      refine AL.nx ?_
      refine AW.seq ?_
      refine AW.rs ?_
      refine AL.val rfl (.inl rfl) (HV.as rfl) ?_
      refine AL.nx ?_
      refine AW.block ?_
      have X22 := Ext.refl H18
      refine AW.loop (σ := Nat × Bool) (fun ⟨i, fd⟩ => [(0, .int .i64 p), (1, v), (2, .int .i64 x), (3, vm), (8, (.slice none 0 0)), (9, .int .i64 0), (10, .int .i64 (l.length : Int)), (11, .bool fd), (12, .int .i64 (i : Int))]) (fun ⟨i, fd⟩ H' => Ext H H' ∧ Ext H18 H' ∧ i ≤ m.length ∧ (fd = true → ((0 ≤ x ∧ x ≤ p - 1) ∧ (m.length : Int) = l.length) ∧ ∀ j, j < i → rowOk l.length p (m.getD j [])) ∧ (fd = false → ¬ gdE p l m x) ∧ True) (fun ⟨i, fd⟩ => m.length - i) (0, decide ((m.length : Int) = (l.length : Int))) ⟨X20, X22, Nat.zero_le _, (fun h => ⟨⟨by assumption, of_decide_eq_true h⟩, fun j hj => absurd hj (Nat.not_lt_zero _)⟩), (fun h hg => of_decide_eq_false h hg.1.2), trivial⟩ ⟨rfl, rfl, rfl, rfl, rfl, rfl, rfl, rfl, rfl, trivial⟩ ?_
      rintro ⟨i, fd⟩ H23 ⟨X24, X25, hi, hfd, hbad, _⟩
      refine AW.seq ?_
      refine AW.rs ?_
      refine AL.val rfl (.inl rfl) (HV.mv rfl) ?_
      refine AL.val rfl (.inl rfl) (HV.mv rfl) ?_
      refine AL.val rfl (.inl rfl) (HV.len Try.underlying36 rfl hr2.isSl) ?_
      refine AL.val rfl (.inl rfl) (HV.lti rfl rfl) ?_
      refine AL.val rfl (.inl rfl) (HV.mv rfl) ?_
      by_cases c26 : (i : Int) < (m.length : Int)
      · -- true
        have c26_ : decide ((i : Int) < (m.length : Int)) = true := decide_eq_true c26
        rw [c26_]
        refine AL.val rfl (.inr ⟨_, _, _, rfl, rfl, rfl⟩) (HV.mv rfl) ?_
        refine AL.val rfl (.inl rfl) (HV.pickT rfl rfl) ?_
        refine AL.nx ?_
        refine AW.cond rfl (fun c27 => ?_) (fun c27 => ?_)
        · -- then
          refine AW.skip ?_
          refine nrm_and ?_
          refine AW.seq ?_
          refine AW.block ?_
          refine AW.reg ?_
          refine AL.val rfl (.inl rfl) (HV.mv rfl) ?_
          refine AL.val rfl (.inl rfl) (HV.mv rfl) ?_
          obtain ⟨p28, z29, cs30, hz31, hK32, hC33, hP34⟩ := RdK.ix (q := (i : Int)) hr2 sl36 (by omega) (by omega)
          obtain ⟨v35, rfl, hr36⟩ := hK32
          have hm37 := hr36.max
          refine AL.val rfl (.inl rfl) (hP34 rfl rfl) ?_
          refine AL.val rfl (.inl rfl) (HV.ld rfl va24 (cells_first (hC33.ext X24) rfl)) ?_
          refine AL.val rfl (.inl rfl) (HV.len Try.underlying24 rfl hr36.isSl) ?_
          refine AL.val rfl (.inl rfl) (HV.mv rfl) ?_
          refine AL.val rfl (.inl rfl) (HV.sub rfl rfl (by omega)) ?_
          refine AL.val rfl (.inl rfl) (HV.eqi rfl rfl) ?_
          refine AL.val rfl (.inl rfl) (HV.mv rfl) ?_
          by_cases c38 : (z29.length : Int) = ((l.length : Int) - 1)
          · -- true
            have c38_ : decide ((z29.length : Int) = ((l.length : Int) - 1)) = true := decide_eq_true c38
            rw [c38_]
            refine AL.val rfl (.inr ⟨_, _, _, rfl, rfl, rfl⟩) (HV.mv rfl) ?_
            refine AL.val rfl (.inr ⟨_, _, _, rfl, rfl, rfl⟩) (HV.mv rfl) ?_
            refine AL.val rfl (.inr ⟨_, _, _, rfl, rfl, rfl⟩) (HV.mv rfl) ?_
            obtain ⟨p39, z40, cs41, hz42, hK43, hC44, hP45⟩ := RdK.ix (q := (i : Int)) hr2 sl36 (by omega) (by omega)
            obtain ⟨v46, rfl, hr47⟩ := hK43
            have hm48 := hr47.max
            refine AL.val rfl (.inr ⟨_, _, _, rfl, rfl, rfl⟩) (hP45 rfl rfl) ?_
            refine AL.val rfl (.inr ⟨_, _, _, rfl, rfl, rfl⟩) (HV.ld rfl va24 (cells_first (hC44.ext X24) rfl)) ?_
            refine AL.w rfl (.inr ⟨_, _, _, rfl, rfl, rfl⟩) (WV.call fn86 rfl (resid_ok (hr47.ext X24) (by assumption : vS p l).1.1)) ?_
            rintro _ H49 ⟨rfl, hx50⟩
            have X51 := Ext.trans X24 hx50
            have X52 := Ext.trans X25 hx50
            refine AL.val rfl (.inl rfl) (HV.pickT rfl rfl) ?_
            refine AL.val rfl (.inl rfl) (HV.as rfl) ?_
            refine AL.nil ?_
            refine nrm_blk (nrm_and ?_)
            refine AW.reg ?_
            refine AL.val rfl (.inl rfl) (HV.mv rfl) ?_
            refine AL.val rfl (.inl rfl) (HV.add rfl rfl (by omega)) ?_
            refine AL.val rfl (.inl rfl) (HV.as rfl) ?_
            refine AL.nil ?_
            refine nrm_and ?_
            exact ⟨(i + 1, decide (elems p z40)), ⟨X51, X52, by omega, (fun h => ⟨(hfd (by assumption : fd = true)).1, fun j hj => (Nat.lt_or_ge j i).elim (fun h1 => (hfd (by assumption : fd = true)).2 j h1) (fun h1 => by obtain rfl : j = i := (by omega); rw [(gd hz31 rfl : m.getD j [] = z29)]; exact ⟨by assumption, (show z40 = z29 from same_at hz31 hz42) ▸ of_decide_eq_true h⟩)⟩), (fun h hg => by have q := (hg.2 i (by omega)).2; rw [(gd hz42 rfl : m.getD i [] = z40)] at q; exact of_decide_eq_false h q), trivial⟩, by first | omega | (dsimp only; omega), ⟨rfl, rfl, rfl, rfl, rfl, rfl, rfl, rfl, rfl, trivial⟩⟩
          · -- false
            have c38_ : decide ((z29.length : Int) = ((l.length : Int) - 1)) = false := decide_eq_false c38
            rw [c38_]
            refine AL.off rfl rfl (by decide) rfl ?_
            refine AL.off rfl rfl (by decide) rfl ?_
            refine AL.off rfl rfl (by decide) rfl ?_
            refine AL.off rfl rfl (by decide) rfl ?_
            refine AL.off rfl rfl (by decide) rfl ?_
            refine AL.off rfl rfl (by decide) rfl ?_
            refine AL.val rfl (.inl rfl) (HV.pickF rfl rfl) ?_
            refine AL.val rfl (.inl rfl) (HV.as rfl) ?_
            refine AL.nil ?_
            refine nrm_blk (nrm_and ?_)
            refine AW.reg ?_
            refine AL.val rfl (.inl rfl) (HV.mv rfl) ?_
            refine AL.val rfl (.inl rfl) (HV.add rfl rfl (by omega)) ?_
            refine AL.val rfl (.inl rfl) (HV.as rfl) ?_
            refine AL.nil ?_
            refine nrm_and ?_
            exact ⟨(i + 1, false), ⟨X24, X25, by omega, (fun h => by cases h), (fun _ hg => by have q := (hg.2 i (by omega)).1; rw [(gd hz31 rfl : m.getD i [] = z29)] at q; exact absurd q (by assumption)), trivial⟩, by first | omega | (dsimp only; omega), ⟨rfl, rfl, rfl, rfl, rfl, rfl, rfl, rfl, rfl, trivial⟩⟩
        · -- else
          refine AW.exit ?_
          refine ex_and (ex_and (ex_blk ?_))
          refine nrm_and ?_
          refine AW.seq ?_
          refine AW.rs ?_
          refine AL.val rfl (.inl rfl) (HV.mv rfl) ?_
          refine AL.val rfl (.inl rfl) (HV.not rfl) ?_
          refine AL.nx ?_
          refine AW.cond rfl (fun c53 => ?_) (fun c53 => ?_)
          · -- then
            refine AW.rs ?_
            have X54 := Ext.refl H23
            have o55 := X24.bd
            have o56 := X25.bd
            have o57 := X54.bd
            refine AL.w rfl (.inl rfl) (WV.bsK (K := (kO 2 kI)) (l := ([] : List (List Int))) (css := []) sl36 rfl rfl (by first | rfl | (simp [Instr.fill, Value.cells, kI, kB, kU, kS, Kd.sc]; done) | (simp [Instr.fill, Value.cells, kI, kB, kU, kS, Kd.sc, rng1, rng2, rng3, rng4, kP])) rfl segs_nil) ?_
            rintro v58 H59 ⟨hx60, ho61⟩
            have X62 := Ext.trans X24 hx60
            have X63 := Ext.trans X25 hx60
            have X64 := Ext.trans X54 hx60
            have ho65 := ho61.deep0
            refine AL.val rfl (.inl rfl) (HV.as rfl) ?_
            refine AL.val rfl (.inl rfl) (HV.as rfl) ?_
            refine AL.nx ?_
            refine AW.ret ?_
            refine ret_and ?_
            refine post_two rfl rfl rfl ?_ (.inr rfl)
            have hv : vS p l := (by assumption); have hq_ := en2 (L := m) (at_ := x) hv (fun h => hbad (by simpa using c53) h); exact ⟨⟨_, [], by rw [hq_.1], hq_.2.symm, ho65.okk (fun b hb _ => Nat.le_trans o55 hb)⟩, X62⟩
          · -- else
            refine AW.skip ?_
            refine nrm_and ?_
            refine AW.seq ?_
            refine AW.rs ?_
            refine AL.val rfl (.inl rfl) (HV.mv rfl) ?_
            refine AL.val rfl (.inl rfl) (HV.eqi rfl rfl) ?_
            refine AL.nx ?_
            refine AW.ifd rfl (fun c67 => ?_) (fun c67 => ?_)
            · -- then
              refine AW.rs ?_
              have X68 := Ext.refl H23
              have o69 := X24.bd
              have o70 := X25.bd
              have o71 := X68.bd
              refine AL.w rfl (.inl rfl) (WV.bsK (K := (kO 2 kI)) (l := ([] : List (List Int))) (css := []) sl36 rfl rfl (by first | rfl | (simp [Instr.fill, Value.cells, kI, kB, kU, kS, Kd.sc]; done) | (simp [Instr.fill, Value.cells, kI, kB, kU, kS, Kd.sc, rng1, rng2, rng3, rng4, kP])) rfl segs_nil) ?_
              rintro v72 H73 ⟨hx74, ho75⟩
              have X76 := Ext.trans X24 hx74
              have X77 := Ext.trans X25 hx74
              have X78 := Ext.trans X68 hx74
              have ho79 := ho75.deep0
              refine AL.val rfl (.inl rfl) (HV.as rfl) ?_
              refine AL.val rfl (.inl rfl) (HV.as rfl) ?_
              refine AL.nx ?_
              refine AW.ret ?_
              refine ret_and ?_
              refine post_two rfl rfl rfl ?_ (.inr rfl)
              have hv : vS p l := (by assumption); have hgd : gdE p l m x := (by have hfd1 : fd = true := (by simpa using (by assumption : (!fd) = false)); first | exact ⟨(hfd hfd1).1, fun j hj => (hfd hfd1).2 j (by omega)⟩ | exact absurd (hfd1.symm.trans (by assumption : fd = false)) (by decide)); have hq_ := en4 hv hgd c67; exact ⟨⟨_, [], by rw [hq_.1], hq_.2.symm, ho79.okk (fun b hb _ => Nat.le_trans o69 hb)⟩, X76⟩
            · -- else
              refine AW.skip ?_
              refine nrm_and ?_
              refine AW.rs ?_
              have hv : vS p l := (by assumption)
              have hgd : gdE p l m x := (by have hfd1 : fd = true := (by simpa using (by assumption : (!fd) = false)); first | exact ⟨(hfd hfd1).1, fun j hj => (hfd hfd1).2 j (by omega)⟩ | exact absurd (hfd1.symm.trans (by assumption : fd = false)) (by decide))
              have hn0 : (l.length : Int) ≠ 0 := (by assumption)
              have hp := hv.1.1
              have hq := isPr_of hv.1
              have hpl := hv.2.2
              have hpl2 := hpl.1
              rw [List.length_map] at hpl2
              have hx_ := hgd.1.1
              have hlm := hgd.1.2
              have hwl : (wts p (l.map Prod.fst) x (l.map Prod.fst).length).length = l.length := by rw [wts_len, List.length_map]
              refine AL.val rfl (.inl rfl) (HV.mv rfl) ?_
              refine AL.val rfl (.inl rfl) (HV.mv rfl) ?_
              refine AL.w rfl (.inl rfl) (WV.call fn70 rfl (places_ok (hr.ext X24) hl)) ?_
              rintro v81 H82 ⟨hx83, ho84⟩
              have X86 := Ext.trans X24 hx83
              have X87 := Ext.trans X25 hx83
              have X88 := Ext.refl H82
              have hr85 : RdK kI W H82 _ v81 (l.map Prod.fst) := ho84.rd
              refine AL.val rfl (.inl rfl) (HV.mv rfl) ?_
              refine AL.w rfl (.inl rfl) (WV.call fn87 rfl (l05Wts_ok p x hr85 hq hx_ hpl.2 (by have := hpl.1; omega))) ?_
              rintro v89 H90 ⟨hx91, ho92⟩
              have X94 := Ext.trans X86 hx91
              have X95 := Ext.trans X87 hx91
              have X96 := Ext.trans X88 hx91
              have X97 := Ext.refl H90
              have hr93 : RdK kI W H90 _ v89 (wts p (l.map Prod.fst) x (l.map Prod.fst).length) := ho92.rd
              refine AL.val rfl (.inl rfl) (HV.as rfl) ?_
              refine AL.nx ?_
              refine AW.rs ?_
              have o98 := X94.bd
              have o99 := X95.bd
              have o100 := X96.bd
              have o101 := X97.bd
              refine AL.w rfl (.inl rfl) (WV.bsK (K := (kO 2 kI)) (l := ([] : List (List Int))) (css := []) sl36 rfl rfl (by first | rfl | (simp [Instr.fill, Value.cells, kI, kB, kU, kS, Kd.sc]; done) | (simp [Instr.fill, Value.cells, kI, kB, kU, kS, Kd.sc, rng1, rng2, rng3, rng4, kP])) rfl segs_nil) ?_
              rintro v102 H103 ⟨hx104, ho105⟩
              have X106 := Ext.trans X94 hx104
              have X107 := Ext.trans X95 hx104
              have X108 := Ext.trans X96 hx104
              have X109 := Ext.trans X97 hx104
              have ho110 := ho105.deep0
              refine AL.val rfl (.inl rfl) (HV.as rfl) ?_
              refine AL.nx ?_
              refine AW.seq ?_
              refine AW.rs ?_
              refine AL.val rfl (.inl rfl) (HV.as rfl) ?_
              refine AL.nx ?_
              refine AW.block ?_
              refine AW.loop (σ := Nat × Value × List (List Int)) (fun ⟨i, vv, k⟩ => [(0, .int .i64 p), (1, v), (3, vm), (8, (.slice none 0 0)), (9, .int .i64 0), (10, .int .i64 (l.length : Int)), (13, v89), (14, vv), (15, .int .i64 (i : Int))]) (fun ⟨i, vv, k⟩ H' => Ext H H' ∧ Ext H18 H' ∧ Ext H82 H' ∧ Ext H90 H' ∧ i ≤ l.length ∧ k = enrN p l m x i ∧ k.length = i ∧ OwnD (kO 2 kI) 24 W H' (fun b => H90.bd ≤ b) vv k ∧ True) (fun ⟨i, vv, k⟩ => l.length - i) (0, v102, (([] : List (List Int)) : List (List Int))) ⟨X106, X107, X108, X109, Nat.zero_le _, rfl, rfl, ho110, trivial⟩ ⟨rfl, rfl, rfl, rfl, rfl, rfl, rfl, rfl, rfl, trivial⟩ ?_
              rintro ⟨i, vv, k⟩ H112 ⟨X113, X114, X115, X116, hi, hk, hk2, hoL, _⟩
              refine AW.seq ?_
              refine AW.rs ?_
              refine AL.val rfl (.inl rfl) (HV.mv rfl) ?_
              refine AL.val rfl (.inl rfl) (HV.mv rfl) ?_
              refine AL.val rfl (.inl rfl) (HV.lti rfl rfl) ?_
              refine AL.nx ?_
              refine AW.ifd rfl (fun c117 => ?_) (fun c117 => ?_)
              · -- then
                refine AW.skip ?_
                refine nrm_and ?_
                refine AW.seq ?_
                refine AW.block ?_
                refine AW.seq ?_
                refine AW.draw' [0, 0, 3, 7, 0, 0, 48, 112, 240, 511, 0, 2047, 4095] mixed (by rfl) ?_
                refine Dr.read 0 _ 77 _ rfl rfl rfl rfl rfl (RV.of (by intro _ _ h; cases h) (.inl rfl) (fun _ xd => HV.mv rfl)) ?_
                refine Dr.read 1 _ 78 _ rfl rfl rfl rfl rfl (RV.of (by intro _ _ h; cases h) (.inl rfl) (fun _ xd => HV.mv rfl)) ?_
                obtain ⟨p118, z119, cs120, hz121, hK122, hC123, hP124⟩ := RdK.ix (q := (i : Int)) hr93 sl24 (by omega) (by omega)
                obtain rfl : cs120 = [.int .i64 z119] := hK122
                refine Dr.read 2 _ 79 _ rfl rfl rfl rfl rfl (RV.of (by intro _ _ h; cases h) (.inl rfl) (fun _ xd => hP124 rfl rfl)) ?_
                refine Dr.read 3 _ 80 _ rfl rfl rfl rfl rfl (RV.of (by intro _ _ h; cases h) (.inl rfl) (fun _ xd => HV.ld rfl va2 (rdc_ext xd (cells_first (hC123.ext X116) rfl)))) ?_
                refine Dr.read 4 _ 81 _ rfl rfl rfl rfl rfl (RV.of (by intro _ _ h; cases h) (.inl rfl) (fun _ xd => HV.mv rfl)) ?_
                refine Dr.read 5 _ 82 _ rfl rfl rfl rfl rfl (RV.of (by intro _ _ h; cases h) (.inl rfl) (fun _ xd => HV.mv rfl)) ?_
                obtain ⟨p125, z126, cs127, hz128, hK129, hC130, hP131⟩ := RdK.ix (q := (i : Int)) hr sl27 (by omega) (by omega)
                obtain ⟨cs132, cs133, rfl, hK134, hK135⟩ := hK129
                obtain rfl : cs132 = [.int .i64 z126.1] := hK134
                obtain rfl : cs133 = [.int .i64 z126.2] := hK135
                refine Dr.read 6 _ 83 _ rfl rfl rfl rfl rfl (RV.of (by intro _ _ h; cases h) (.inl rfl) (fun _ xd => hP131 rfl rfl)) ?_
                refine Dr.read 7 _ 84 _ rfl rfl rfl rfl rfl (RV.of (by intro _ _ h; cases h) (.inl rfl) (fun _ xd => HV.fa fl68_1 rfl)) ?_
                refine Dr.read 8 _ 85 _ rfl rfl rfl rfl rfl (RV.of (by intro _ _ h; cases h) (.inl rfl) (fun _ xd => HV.ld rfl va2 (rdc_ext xd (cells_at (hC130.ext X113) rfl)))) ?_
                refine Dr.read 9 _ 86 _ rfl rfl rfl rfl rfl (RV.of (by intro _ _ h; cases h) (.inl rfl) (fun _ xd => HV.mul rfl rfl (by have q1 := wts_at (show 2 ≤ p by omega) hz121; have q2 : 0 ≤ z126.2 ∧ z126.2 ≤ p - 1 := (vS_bnd hv _ (List.mem_of_getElem? hz128)).2; have q3 := mul31 (a := z119) (b := z126.2) (by omega) (by omega) (by omega) (by omega); omega))) ?_
                refine Dr.read 10 _ 87 _ rfl rfl rfl rfl rfl (RV.of (by intro _ _ h; cases h) (.inl rfl) (fun _ xd => HV.mv rfl)) ?_
                refine Dr.read 11 _ 88 _ rfl rfl rfl rfl rfl (RV.of (by intro _ _ h; cases h) (.inl rfl) (fun _ xd => HV.rem rfl rfl (by have q1 := wts_at (show 2 ≤ p by omega) hz121; have q2 : 0 ≤ z126.2 ∧ z126.2 ≤ p - 1 := (vS_bnd hv _ (List.mem_of_getElem? hz128)).2; have q3 := mul31 (a := z119) (b := z126.2) (by omega) (by omega) (by omega) (by omega); omega))) ?_
                refine Dr.read 12 _ 16 _ rfl rfl rfl rfl rfl (RV.of (by intro _ _ h; cases h) (.inl rfl) (fun _ xd => HV.as rfl)) ?_
                refine Dr.fin rfl ?_
                refine nrm_and ?_
                refine AW.seq ?_
                refine AW.rs ?_
                refine AL.val rfl (.inl rfl) (HV.as rfl) ?_
                refine AL.nx ?_
                refine AW.block ?_
                have hml := (hgd.2 i (by omega)).1
                have hme := (hgd.2 i (by omega)).2
                have ha0 := emod_bd (show 0 < p by omega) ((wts p (l.map Prod.fst) x (l.map Prod.fst).length).getD i 0 * (l.getD i (0, 0)).2)
                refine AW.loop (σ := Nat × Int) (fun ⟨j, a⟩ => [(0, .int .i64 p), (1, v), (3, vm), (8, (.slice none 0 0)), (9, .int .i64 0), (10, .int .i64 (l.length : Int)), (13, v89), (14, vv), (15, .int .i64 (i : Int)), (72, .int .i64 (i : Int)), (73, .int .i64 (l.length : Int)), (74, .bool (decide ((i : Int) < (l.length : Int)))), (77, v89), (78, .int .i64 (i : Int)), (79, .pointer (some p118)), (80, .int .i64 z119), (81, v), (82, .int .i64 (i : Int)), (83, .pointer (some p125)), (85, .int .i64 z126.2), (86, .int .i64 (z119 * z126.2)), (87, .int .i64 p), (88, .int .i64 ((z119 * z126.2) % p)), (16, .int .i64 a), (17, .int .i64 (j : Int))]) (fun ⟨j, a⟩ H' => Ext H H' ∧ Ext H18 H' ∧ Ext H82 H' ∧ Ext H90 H' ∧ OwnD (kO 2 kI) 24 W H' (fun b => H90.bd ≤ b) vv k ∧ j ≤ (m.getD i []).length ∧ a = lastE p ((wts p (l.map Prod.fst) x (l.map Prod.fst).length).getD i 0 * (l.getD i (0, 0)).2 % p) ((m.getD i []).take j) ∧ True) (fun ⟨j, a⟩ => (m.getD i []).length - j) (0, (z119 * z126.2) % p) ⟨X113, X114, X115, X116, hoL, Nat.zero_le _, by have e1 : (wts p (l.map Prod.fst) x (l.map Prod.fst).length).getD i 0 = z119 := gd hz121 rfl; have e2 : (l.getD i (0, 0)).2 = z126.2 := congrArg Prod.snd (gd hz128 rfl : l.getD i (0, 0) = z126); rw [e1, e2]; rfl, trivial⟩ ⟨rfl, rfl, rfl, rfl, rfl, rfl, rfl, rfl, rfl, rfl, rfl, rfl, rfl, rfl, rfl, rfl, rfl, rfl, rfl, rfl, rfl, rfl, rfl, rfl, rfl, trivial⟩ ?_
                rintro ⟨j, a⟩ H136 ⟨X137, X138, X139, X140, ho141, hj, ha, _⟩
                have hain := lastE_in (show 0 < p by omega) ha0 ((m.getD i []).take j)
                rw [← ha] at hain
                refine AW.seq ?_
                refine AW.rs ?_
                refine AL.val rfl (.inl rfl) (HV.mv rfl) ?_
                refine AL.val rfl (.inl rfl) (HV.mv rfl) ?_
                refine AL.val rfl (.inl rfl) (HV.sub rfl rfl (by omega)) ?_
                refine AL.val rfl (.inl rfl) (HV.lti rfl rfl) ?_
                refine AL.nx ?_
                refine AW.ifd rfl (fun c142 => ?_) (fun c142 => ?_)
                · -- then
                  refine AW.skip ?_
                  refine nrm_and ?_
                  refine AW.seq ?_
                  refine AW.block ?_
                  refine AW.reg ?_
                  refine AL.val rfl (.inl rfl) (HV.mv rfl) ?_
                  refine AL.val rfl (.inl rfl) (HV.mv rfl) ?_
                  refine AL.val rfl (.inl rfl) (HV.mv rfl) ?_
                  obtain ⟨p143, z144, cs145, hz146, hK147, hC148, hP149⟩ := RdK.ix (q := (i : Int)) hr2 sl36 (by omega) (by omega)
                  obtain ⟨v150, rfl, hr151⟩ := hK147
                  have hm152 := hr151.max
                  refine AL.val rfl (.inl rfl) (hP149 rfl rfl) ?_
                  refine AL.val rfl (.inl rfl) (HV.ld rfl va24 (cells_first (hC148.ext X137) rfl)) ?_
                  refine AL.val rfl (.inl rfl) (HV.mv rfl) ?_
                  obtain ⟨p153, z154, cs155, hz156, hK157, hC158, hP159⟩ := RdK.ix (q := (j : Int)) hr151 sl24 (by omega) (by have e3_ : m.getD i [] = z144 := gd hz146 rfl; rw [← e3_]; omega)
                  obtain rfl : cs155 = [.int .i64 z154] := hK157
                  refine AL.val rfl (.inl rfl) (hP159 rfl rfl) ?_
                  refine AL.val rfl (.inl rfl) (HV.ld rfl va2 (cells_first (hC158.ext X137) rfl)) ?_
                  refine AL.val rfl (.inl rfl) (HV.sub rfl rfl (by have e3_ : m.getD i [] = z144 := gd hz146 rfl; have q1 := elem_at (e3_ ▸ hme) hz156; omega)) ?_
                  refine AL.val rfl (.inl rfl) (HV.mv rfl) ?_
                  refine AL.w rfl (.inl rfl) (WV.call fn88 rfl (rest_ok (W := W) (a - z154) p (by assumption : vS p l).1.1)) ?_
                  rintro _ H160 ⟨rfl, hx161⟩
                  have X162 := Ext.trans X137 hx161
                  have X163 := Ext.trans X138 hx161
                  have X164 := Ext.trans X139 hx161
                  have X165 := Ext.trans X140 hx161
                  have ho166 := ho141.ext hx161
                  refine AL.val rfl (.inl rfl) (HV.as rfl) ?_
                  refine AL.nil ?_
                  refine nrm_blk (nrm_and ?_)
                  refine AW.reg ?_
                  refine AL.val rfl (.inl rfl) (HV.mv rfl) ?_
                  refine AL.val rfl (.inl rfl) (HV.add rfl rfl (by omega)) ?_
                  refine AL.val rfl (.inl rfl) (HV.as rfl) ?_
                  refine AL.nil ?_
                  refine nrm_and ?_
                  have e3_ : m.getD i [] = z144 := gd hz146 rfl
                  exact ⟨(j + 1, (a - z154) % p), ⟨X162, X163, X164, X165, ho166, by first | omega | (rw [e3_]; omega), by rw [e3_] at ha ⊢; rw [lastE_snoc hz156, ← ha], trivial⟩, by first | omega | (dsimp only; omega), ⟨rfl, rfl, rfl, rfl, rfl, rfl, rfl, rfl, rfl, rfl, rfl, rfl, rfl, rfl, rfl, rfl, rfl, rfl, rfl, rfl, rfl, rfl, rfl, rfl, rfl, trivial⟩⟩
                · -- else
                  refine AW.exit ?_
                  refine ex_and (ex_and (ex_blk ?_))
                  refine nrm_and ?_
                  refine AW.reg ?_
                  refine AL.val rfl (.inl rfl) (HV.mv rfl) ?_
                  refine AL.val rfl (.inl rfl) (HV.mv rfl) ?_
                  refine AL.val rfl (.inl rfl) (HV.mv rfl) ?_
                  obtain ⟨p167, z168, cs169, hz170, hK171, hC172, hP173⟩ := RdK.ix (q := (i : Int)) hr2 sl36 (by omega) (by omega)
                  obtain ⟨v174, rfl, hr175⟩ := hK171
                  have hm176 := hr175.max
                  refine AL.val rfl (.inl rfl) (hP173 rfl rfl) ?_
                  refine AL.val rfl (.inl rfl) (HV.ld rfl va24 (cells_first (hC172.ext X137) rfl)) ?_
                  have hzl_ : z168.length ≤ 10 := by have e : m.getD i [] = z168 := gd hz170 rfl; rw [← e]; omega
                  have X177 := Ext.refl H136
                  have o178 := X137.bd
                  have o179 := X138.bd
                  have o180 := X139.bd
                  have o181 := X140.bd
                  have o182 := X177.bd
                  have a183 := ho141.ltb
                  have ho184 := ho141.okk (ok' := fun b => H90.bd ≤ b ∧ b < H136.bd) (fun b hb hlt => ⟨hb, hlt⟩)
                  refine AL.w rfl (.inl rfl) (WV.call fn89 rfl (l00Own_ok (hr175.ext X137) (by omega))) ?_
                  rintro v185 H186 ⟨hx187, ho188⟩
                  have X189 := Ext.trans X137 hx187
                  have X190 := Ext.trans X138 hx187
                  have X191 := Ext.trans X139 hx187
                  have X192 := Ext.trans X140 hx187
                  have X193 := Ext.trans X177 hx187
                  have ho194 := ho184.ext hx187
                  refine AL.val rfl (.inl rfl) (HV.mv rfl) ?_
                  have X196 := Ext.refl H186
                  have o197 := X189.bd
                  have o198 := X190.bd
                  have o199 := X191.bd
                  have o200 := X192.bd
                  have o201 := X193.bd
                  have o202 := X196.bd
                  have a203 := ho194.ltb
                  have a204 := ho188.ltb
                  refine AL.w rfl (.inl rfl) (WV.bsK (K := kI) (l := ([a] : List Int)) (css := [[.int .i64 a]]) sl24 rfl rfl (by first | rfl | (simp [Instr.fill, Value.cells, kI, kB, kU, kS, Kd.sc]; done) | (simp [Instr.fill, Value.cells, kI, kB, kU, kS, Kd.sc, rng1, rng2, rng3, rng4, kP])) rfl (segs_cons rfl segs_nil)) ?_
                  rintro v205 H206 ⟨hx207, ho208⟩
                  have X209 := Ext.trans X189 hx207
                  have X210 := Ext.trans X190 hx207
                  have X211 := Ext.trans X191 hx207
                  have X212 := Ext.trans X192 hx207
                  have X213 := Ext.trans X193 hx207
                  have X214 := Ext.trans X196 hx207
                  have ho215 := ho194.ext hx207
                  have ho216 := ho188.ext hx207
                  have X218 := Ext.refl H206
                  refine AL.w rfl (.inl rfl) (WV.apk sl24 rfl rfl ho216 ho208.rd (by simp; omega) (by simp; omega) (fun b hb _ e => Nat.lt_irrefl _ (Nat.lt_of_lt_of_le (a204 b e) hb))) ?_
                  rintro v219 H220 ⟨hx221, ho222, hb223⟩
                  have ho224 := ho222.narrow (ok' := fun b => H136.bd ≤ b) kI_flat (fun b q => (hb223 b q).elim (fun e => (ho216.blk b e).1) (fun e => Nat.le_trans X213.bd e))
                  have X225 := Ext.thru X209 hx221 (fun b hb => Nat.le_trans o178 (ho216.blk b hb).1)
                  have X226 := Ext.thru X210 hx221 (fun b hb => Nat.le_trans o179 (ho216.blk b hb).1)
                  have X227 := Ext.thru X211 hx221 (fun b hb => Nat.le_trans o180 (ho216.blk b hb).1)
                  have X228 := Ext.thru X212 hx221 (fun b hb => Nat.le_trans o181 (ho216.blk b hb).1)
                  have X229 := Ext.thru X213 hx221 (fun b hb => Nat.le_trans o182 (ho216.blk b hb).1)
                  have ho232 := ho215.but hx221 (fun b hb _ e => by have h1 : H90.bd ≤ b ∧ b < H136.bd := hb; have h2 : H136.bd ≤ b := (ho216.blk b e).1; omega) (fun b hb => (ho216.blk b hb).2.2)
                  have X234 := Ext.refl H220
                  have o235 := X225.bd
                  have o236 := X226.bd
                  have o237 := X227.bd
                  have o238 := X228.bd
                  have o239 := X229.bd
                  have o240 := X234.bd
                  have a241 := ho232.ltb
                  have a242 := ho224.ltb
                  have hc247 : v219.cells = #[v219] := by obtain ⟨A, c, e⟩ := ho224.isSl; rw [e]; rfl
                  refine AL.w rfl (.inl rfl) (WV.bsO (okx := fun b => H136.bd ≤ b) (K := (kO 2 kI)) (l := ([(z168 ++ (([a] : List Int) : List Int))] : List (List Int))) (css := [[v219]]) sl36 rfl rfl (by simp [Instr.fill, hc247, kO, rng1]) rfl (segs_cons ⟨_, rfl, ho224⟩ segs_nil)) ?_
                  rintro v243 H244 ⟨hx245, ho246⟩
                  have X249 := Ext.trans X225 hx245
                  have X250 := Ext.trans X226 hx245
                  have X251 := Ext.trans X227 hx245
                  have X252 := Ext.trans X228 hx245
                  have X253 := Ext.trans X229 hx245
                  have X254 := Ext.trans X234 hx245
                  have ho255 := ho232.ext hx245
                  have ho256 := ho224.ext hx245
                  have ho248 := ho246.okk (ok' := fun b => H136.bd ≤ b) (fun b hb _ => hb.elim id (fun e => Nat.le_trans X229.bd e))
                  have X258 := Ext.refl H244
                  refine AL.w rfl (.inl rfl) (WV.apD (ok := fun b => H90.bd ≤ b) (B := H136.bd) sl36 rfl rfl ho255 ho248.rd X253.bd (by rw [hk2]; omega) (by rw [hk2]; omega)) ?_
                  rintro v259 H260 ⟨hx261, ho262, hb263⟩
                  have ho264 := ho262.okk (ok' := fun b => H90.bd ≤ b) (fun b hb _ => hb.elim id (fun e => Nat.le_trans o181 e))
                  have X265 := Ext.thru X249 hx261 (fun b hb => Nat.le_trans o98 (ho255.blk b hb).1.1)
                  have X266 := Ext.thru X250 hx261 (fun b hb => Nat.le_trans o99 (ho255.blk b hb).1.1)
                  have X267 := Ext.thru X251 hx261 (fun b hb => Nat.le_trans o100 (ho255.blk b hb).1.1)
                  have X268 := Ext.thru X252 hx261 (fun b hb => Nat.le_trans o101 (ho255.blk b hb).1.1)
                  refine AL.val rfl (.inl rfl) (HV.as rfl) ?_
                  refine AL.nil ?_
                  refine nrm_blk (nrm_and ?_)
                  refine AW.reg ?_
                  refine AL.val rfl (.inl rfl) (HV.mv rfl) ?_
                  refine AL.val rfl (.inl rfl) (HV.add rfl rfl (by omega)) ?_
                  refine AL.val rfl (.inl rfl) (HV.as rfl) ?_
                  refine AL.nil ?_
                  refine nrm_and ?_
                  exact ⟨(i + 1, v259, (k ++ ([(z168 ++ (([a] : List Int) : List Int))] : List (List Int)))), ⟨X265, X266, X267, X268, by omega, by have hj2 : j = (m.getD i []).length := (by omega); rw [enrN_succ, hk]; exact congrArg (fun z => enrN p l m x i ++ [z]) (show enrE p l m x i = z168 ++ [a] by unfold enrE; rw [ha, hj2, List.take_length, (gd hz170 rfl : m.getD i [] = z168)]).symm, by simp [hk2], ho264, trivial⟩, by first | omega | (dsimp only; omega), ⟨rfl, rfl, rfl, rfl, rfl, rfl, rfl, rfl, rfl, trivial⟩⟩
              · -- else
                refine AW.exit ?_
                refine ex_and (ex_and (ex_blk ?_))
                refine nrm_and ?_
                refine AW.rs ?_
                refine AL.val rfl (.inl rfl) (HV.mv rfl) ?_
                refine AL.val rfl (.inl rfl) (HV.as rfl) ?_
                refine AL.val rfl (.inl rfl) (HV.as rfl) ?_
                refine AL.nx ?_
                refine AW.ret ?_
                refine post_two rfl rfl rfl ?_ (.inr rfl)
                have hq_ := en0 hv hgd hn0; exact ⟨⟨_, _, by rw [hq_.1], hq_.2.symm, by have e : i = l.length := (by omega); have q := hoL.okk (fun b hb _ => Nat.le_trans o98 hb); rw [hk, e] at q; exact q⟩, X113⟩
      · -- false
        have c26_ : decide ((i : Int) < (m.length : Int)) = false := decide_eq_false c26
        rw [c26_]
        refine AL.off rfl rfl (by decide) rfl ?_
        refine AL.val rfl (.inl rfl) (HV.pickF rfl rfl) ?_
        refine AL.nx ?_
        refine AW.cond rfl (fun h => by cases h) (fun _ => ?_)
        refine AW.exit ?_
        refine ex_and (ex_and (ex_blk ?_))
        refine nrm_and ?_
        refine AW.seq ?_
        refine AW.rs ?_
        refine AL.val rfl (.inl rfl) (HV.mv rfl) ?_
        refine AL.val rfl (.inl rfl) (HV.not rfl) ?_
        refine AL.nx ?_
        refine AW.cond rfl (fun c273 => ?_) (fun c273 => ?_)
        · -- then
          refine AW.rs ?_
          have X274 := Ext.refl H23
          have o275 := X24.bd
          have o276 := X25.bd
          have o277 := X274.bd
          refine AL.w rfl (.inl rfl) (WV.bsK (K := (kO 2 kI)) (l := ([] : List (List Int))) (css := []) sl36 rfl rfl (by first | rfl | (simp [Instr.fill, Value.cells, kI, kB, kU, kS, Kd.sc]; done) | (simp [Instr.fill, Value.cells, kI, kB, kU, kS, Kd.sc, rng1, rng2, rng3, rng4, kP])) rfl segs_nil) ?_
          rintro v278 H279 ⟨hx280, ho281⟩
          have X282 := Ext.trans X24 hx280
          have X283 := Ext.trans X25 hx280
          have X284 := Ext.trans X274 hx280
          have ho285 := ho281.deep0
          refine AL.val rfl (.inl rfl) (HV.as rfl) ?_
          refine AL.val rfl (.inl rfl) (HV.as rfl) ?_
          refine AL.nx ?_
          refine AW.ret ?_
          refine ret_and ?_
          refine post_two rfl rfl rfl ?_ (.inr rfl)
          have hv : vS p l := (by assumption); have hq_ := en2 (L := m) (at_ := x) hv (fun h => hbad (by simpa using c273) h); exact ⟨⟨_, [], by rw [hq_.1], hq_.2.symm, ho285.okk (fun b hb _ => Nat.le_trans o275 hb)⟩, X282⟩
        · -- else
          refine AW.skip ?_
          refine nrm_and ?_
          refine AW.seq ?_
          refine AW.rs ?_
          refine AL.val rfl (.inl rfl) (HV.mv rfl) ?_
          refine AL.val rfl (.inl rfl) (HV.eqi rfl rfl) ?_
          refine AL.nx ?_
          refine AW.ifd rfl (fun c287 => ?_) (fun c287 => ?_)
          · -- then
            refine AW.rs ?_
            have X288 := Ext.refl H23
            have o289 := X24.bd
            have o290 := X25.bd
            have o291 := X288.bd
            refine AL.w rfl (.inl rfl) (WV.bsK (K := (kO 2 kI)) (l := ([] : List (List Int))) (css := []) sl36 rfl rfl (by first | rfl | (simp [Instr.fill, Value.cells, kI, kB, kU, kS, Kd.sc]; done) | (simp [Instr.fill, Value.cells, kI, kB, kU, kS, Kd.sc, rng1, rng2, rng3, rng4, kP])) rfl segs_nil) ?_
            rintro v292 H293 ⟨hx294, ho295⟩
            have X296 := Ext.trans X24 hx294
            have X297 := Ext.trans X25 hx294
            have X298 := Ext.trans X288 hx294
            have ho299 := ho295.deep0
            refine AL.val rfl (.inl rfl) (HV.as rfl) ?_
            refine AL.val rfl (.inl rfl) (HV.as rfl) ?_
            refine AL.nx ?_
            refine AW.ret ?_
            refine ret_and ?_
            refine post_two rfl rfl rfl ?_ (.inr rfl)
            have hv : vS p l := (by assumption); have hgd : gdE p l m x := (by have hfd1 : fd = true := (by simpa using (by assumption : (!fd) = false)); first | exact ⟨(hfd hfd1).1, fun j hj => (hfd hfd1).2 j (by omega)⟩ | exact absurd (hfd1.symm.trans (by assumption : fd = false)) (by decide)); have hq_ := en4 hv hgd c287; exact ⟨⟨_, [], by rw [hq_.1], hq_.2.symm, ho299.okk (fun b hb _ => Nat.le_trans o289 hb)⟩, X296⟩
          · -- else
            refine AW.skip ?_
            refine nrm_and ?_
            refine AW.rs ?_
            have hv : vS p l := (by assumption)
            have hgd : gdE p l m x := (by have hfd1 : fd = true := (by simpa using (by assumption : (!fd) = false)); first | exact ⟨(hfd hfd1).1, fun j hj => (hfd hfd1).2 j (by omega)⟩ | exact absurd (hfd1.symm.trans (by assumption : fd = false)) (by decide))
            have hn0 : (l.length : Int) ≠ 0 := (by assumption)
            have hp := hv.1.1
            have hq := isPr_of hv.1
            have hpl := hv.2.2
            have hpl2 := hpl.1
            rw [List.length_map] at hpl2
            have hx_ := hgd.1.1
            have hlm := hgd.1.2
            have hwl : (wts p (l.map Prod.fst) x (l.map Prod.fst).length).length = l.length := by rw [wts_len, List.length_map]
            refine AL.val rfl (.inl rfl) (HV.mv rfl) ?_
            refine AL.val rfl (.inl rfl) (HV.mv rfl) ?_
            refine AL.w rfl (.inl rfl) (WV.call fn70 rfl (places_ok (hr.ext X24) hl)) ?_
            rintro v301 H302 ⟨hx303, ho304⟩
            have X306 := Ext.trans X24 hx303
            have X307 := Ext.trans X25 hx303
            have X308 := Ext.refl H302
            have hr305 : RdK kI W H302 _ v301 (l.map Prod.fst) := ho304.rd
            refine AL.val rfl (.inl rfl) (HV.mv rfl) ?_
            refine AL.w rfl (.inl rfl) (WV.call fn87 rfl (l05Wts_ok p x hr305 hq hx_ hpl.2 (by have := hpl.1; omega))) ?_
            rintro v309 H310 ⟨hx311, ho312⟩
            have X314 := Ext.trans X306 hx311
            have X315 := Ext.trans X307 hx311
            have X316 := Ext.trans X308 hx311
            have X317 := Ext.refl H310
            have hr313 : RdK kI W H310 _ v309 (wts p (l.map Prod.fst) x (l.map Prod.fst).length) := ho312.rd
            refine AL.val rfl (.inl rfl) (HV.as rfl) ?_
            refine AL.nx ?_
            refine AW.rs ?_
            have o318 := X314.bd
            have o319 := X315.bd
            have o320 := X316.bd
            have o321 := X317.bd
            refine AL.w rfl (.inl rfl) (WV.bsK (K := (kO 2 kI)) (l := ([] : List (List Int))) (css := []) sl36 rfl rfl (by first | rfl | (simp [Instr.fill, Value.cells, kI, kB, kU, kS, Kd.sc]; done) | (simp [Instr.fill, Value.cells, kI, kB, kU, kS, Kd.sc, rng1, rng2, rng3, rng4, kP])) rfl segs_nil) ?_
            rintro v322 H323 ⟨hx324, ho325⟩
            have X326 := Ext.trans X314 hx324
            have X327 := Ext.trans X315 hx324
            have X328 := Ext.trans X316 hx324
            have X329 := Ext.trans X317 hx324
            have ho330 := ho325.deep0
            refine AL.val rfl (.inl rfl) (HV.as rfl) ?_
            refine AL.nx ?_
            refine AW.seq ?_
            refine AW.rs ?_
            refine AL.val rfl (.inl rfl) (HV.as rfl) ?_
            refine AL.nx ?_
            refine AW.block ?_
            refine AW.loop (σ := Nat × Value × List (List Int)) (fun ⟨i, vv, k⟩ => [(0, .int .i64 p), (1, v), (3, vm), (8, (.slice none 0 0)), (9, .int .i64 0), (10, .int .i64 (l.length : Int)), (13, v309), (14, vv), (15, .int .i64 (i : Int))]) (fun ⟨i, vv, k⟩ H' => Ext H H' ∧ Ext H18 H' ∧ Ext H302 H' ∧ Ext H310 H' ∧ i ≤ l.length ∧ k = enrN p l m x i ∧ k.length = i ∧ OwnD (kO 2 kI) 24 W H' (fun b => H310.bd ≤ b) vv k ∧ True) (fun ⟨i, vv, k⟩ => l.length - i) (0, v322, (([] : List (List Int)) : List (List Int))) ⟨X326, X327, X328, X329, Nat.zero_le _, rfl, rfl, ho330, trivial⟩ ⟨rfl, rfl, rfl, rfl, rfl, rfl, rfl, rfl, rfl, trivial⟩ ?_
            rintro ⟨i, vv, k⟩ H332 ⟨X333, X334, X335, X336, hi, hk, hk2, hoL, _⟩
            refine AW.seq ?_
            refine AW.rs ?_
            refine AL.val rfl (.inl rfl) (HV.mv rfl) ?_
            refine AL.val rfl (.inl rfl) (HV.mv rfl) ?_
            refine AL.val rfl (.inl rfl) (HV.lti rfl rfl) ?_
            refine AL.nx ?_
            refine AW.ifd rfl (fun c337 => ?_) (fun c337 => ?_)
            · -- then
              refine AW.skip ?_
              refine nrm_and ?_
              refine AW.seq ?_
              refine AW.block ?_
              refine AW.seq ?_
              refine AW.draw' [0, 0, 3, 7, 0, 0, 48, 112, 240, 511, 0, 2047, 4095] mixed (by rfl) ?_
              refine Dr.read 0 _ 77 _ rfl rfl rfl rfl rfl (RV.of (by intro _ _ h; cases h) (.inl rfl) (fun _ xd => HV.mv rfl)) ?_
              refine Dr.read 1 _ 78 _ rfl rfl rfl rfl rfl (RV.of (by intro _ _ h; cases h) (.inl rfl) (fun _ xd => HV.mv rfl)) ?_
              obtain ⟨p338, z339, cs340, hz341, hK342, hC343, hP344⟩ := RdK.ix (q := (i : Int)) hr313 sl24 (by omega) (by omega)
              obtain rfl : cs340 = [.int .i64 z339] := hK342
              refine Dr.read 2 _ 79 _ rfl rfl rfl rfl rfl (RV.of (by intro _ _ h; cases h) (.inl rfl) (fun _ xd => hP344 rfl rfl)) ?_
              refine Dr.read 3 _ 80 _ rfl rfl rfl rfl rfl (RV.of (by intro _ _ h; cases h) (.inl rfl) (fun _ xd => HV.ld rfl va2 (rdc_ext xd (cells_first (hC343.ext X336) rfl)))) ?_
              refine Dr.read 4 _ 81 _ rfl rfl rfl rfl rfl (RV.of (by intro _ _ h; cases h) (.inl rfl) (fun _ xd => HV.mv rfl)) ?_
              refine Dr.read 5 _ 82 _ rfl rfl rfl rfl rfl (RV.of (by intro _ _ h; cases h) (.inl rfl) (fun _ xd => HV.mv rfl)) ?_
              obtain ⟨p345, z346, cs347, hz348, hK349, hC350, hP351⟩ := RdK.ix (q := (i : Int)) hr sl27 (by omega) (by omega)
              obtain ⟨cs352, cs353, rfl, hK354, hK355⟩ := hK349
              obtain rfl : cs352 = [.int .i64 z346.1] := hK354
              obtain rfl : cs353 = [.int .i64 z346.2] := hK355
              refine Dr.read 6 _ 83 _ rfl rfl rfl rfl rfl (RV.of (by intro _ _ h; cases h) (.inl rfl) (fun _ xd => hP351 rfl rfl)) ?_
              refine Dr.read 7 _ 84 _ rfl rfl rfl rfl rfl (RV.of (by intro _ _ h; cases h) (.inl rfl) (fun _ xd => HV.fa fl68_1 rfl)) ?_
              refine Dr.read 8 _ 85 _ rfl rfl rfl rfl rfl (RV.of (by intro _ _ h; cases h) (.inl rfl) (fun _ xd => HV.ld rfl va2 (rdc_ext xd (cells_at (hC350.ext X333) rfl)))) ?_
              refine Dr.read 9 _ 86 _ rfl rfl rfl rfl rfl (RV.of (by intro _ _ h; cases h) (.inl rfl) (fun _ xd => HV.mul rfl rfl (by have q1 := wts_at (show 2 ≤ p by omega) hz341; have q2 : 0 ≤ z346.2 ∧ z346.2 ≤ p - 1 := (vS_bnd hv _ (List.mem_of_getElem? hz348)).2; have q3 := mul31 (a := z339) (b := z346.2) (by omega) (by omega) (by omega) (by omega); omega))) ?_
              refine Dr.read 10 _ 87 _ rfl rfl rfl rfl rfl (RV.of (by intro _ _ h; cases h) (.inl rfl) (fun _ xd => HV.mv rfl)) ?_
              refine Dr.read 11 _ 88 _ rfl rfl rfl rfl rfl (RV.of (by intro _ _ h; cases h) (.inl rfl) (fun _ xd => HV.rem rfl rfl (by have q1 := wts_at (show 2 ≤ p by omega) hz341; have q2 : 0 ≤ z346.2 ∧ z346.2 ≤ p - 1 := (vS_bnd hv _ (List.mem_of_getElem? hz348)).2; have q3 := mul31 (a := z339) (b := z346.2) (by omega) (by omega) (by omega) (by omega); omega))) ?_
              refine Dr.read 12 _ 16 _ rfl rfl rfl rfl rfl (RV.of (by intro _ _ h; cases h) (.inl rfl) (fun _ xd => HV.as rfl)) ?_
              refine Dr.fin rfl ?_
              refine nrm_and ?_
              refine AW.seq ?_
              refine AW.rs ?_
              refine AL.val rfl (.inl rfl) (HV.as rfl) ?_
              refine AL.nx ?_
              refine AW.block ?_
              have hml := (hgd.2 i (by omega)).1
              have hme := (hgd.2 i (by omega)).2
              have ha0 := emod_bd (show 0 < p by omega) ((wts p (l.map Prod.fst) x (l.map Prod.fst).length).getD i 0 * (l.getD i (0, 0)).2)
              refine AW.loop (σ := Nat × Int) (fun ⟨j, a⟩ => [(0, .int .i64 p), (1, v), (3, vm), (8, (.slice none 0 0)), (9, .int .i64 0), (10, .int .i64 (l.length : Int)), (13, v309), (14, vv), (15, .int .i64 (i : Int)), (72, .int .i64 (i : Int)), (73, .int .i64 (l.length : Int)), (74, .bool (decide ((i : Int) < (l.length : Int)))), (77, v309), (78, .int .i64 (i : Int)), (79, .pointer (some p338)), (80, .int .i64 z339), (81, v), (82, .int .i64 (i : Int)), (83, .pointer (some p345)), (85, .int .i64 z346.2), (86, .int .i64 (z339 * z346.2)), (87, .int .i64 p), (88, .int .i64 ((z339 * z346.2) % p)), (16, .int .i64 a), (17, .int .i64 (j : Int))]) (fun ⟨j, a⟩ H' => Ext H H' ∧ Ext H18 H' ∧ Ext H302 H' ∧ Ext H310 H' ∧ OwnD (kO 2 kI) 24 W H' (fun b => H310.bd ≤ b) vv k ∧ j ≤ (m.getD i []).length ∧ a = lastE p ((wts p (l.map Prod.fst) x (l.map Prod.fst).length).getD i 0 * (l.getD i (0, 0)).2 % p) ((m.getD i []).take j) ∧ True) (fun ⟨j, a⟩ => (m.getD i []).length - j) (0, (z339 * z346.2) % p) ⟨X333, X334, X335, X336, hoL, Nat.zero_le _, by have e1 : (wts p (l.map Prod.fst) x (l.map Prod.fst).length).getD i 0 = z339 := gd hz341 rfl; have e2 : (l.getD i (0, 0)).2 = z346.2 := congrArg Prod.snd (gd hz348 rfl : l.getD i (0, 0) = z346); rw [e1, e2]; rfl, trivial⟩ ⟨rfl, rfl, rfl, rfl, rfl, rfl, rfl, rfl, rfl, rfl, rfl, rfl, rfl, rfl, rfl, rfl, rfl, rfl, rfl, rfl, rfl, rfl, rfl, rfl, rfl, trivial⟩ ?_
              rintro ⟨j, a⟩ H356 ⟨X357, X358, X359, X360, ho361, hj, ha, _⟩
              have hain := lastE_in (show 0 < p by omega) ha0 ((m.getD i []).take j)
              rw [← ha] at hain
              refine AW.seq ?_
              refine AW.rs ?_
              refine AL.val rfl (.inl rfl) (HV.mv rfl) ?_
              refine AL.val rfl (.inl rfl) (HV.mv rfl) ?_
              refine AL.val rfl (.inl rfl) (HV.sub rfl rfl (by omega)) ?_
              refine AL.val rfl (.inl rfl) (HV.lti rfl rfl) ?_
              refine AL.nx ?_
              refine AW.ifd rfl (fun c362 => ?_) (fun c362 => ?_)
              · -- then
                refine AW.skip ?_
                refine nrm_and ?_
                refine AW.seq ?_
                refine AW.block ?_
                refine AW.reg ?_
                refine AL.val rfl (.inl rfl) (HV.mv rfl) ?_
                refine AL.val rfl (.inl rfl) (HV.mv rfl) ?_
                refine AL.val rfl (.inl rfl) (HV.mv rfl) ?_
                obtain ⟨p363, z364, cs365, hz366, hK367, hC368, hP369⟩ := RdK.ix (q := (i : Int)) hr2 sl36 (by omega) (by omega)
                obtain ⟨v370, rfl, hr371⟩ := hK367
                have hm372 := hr371.max
                refine AL.val rfl (.inl rfl) (hP369 rfl rfl) ?_
                refine AL.val rfl (.inl rfl) (HV.ld rfl va24 (cells_first (hC368.ext X357) rfl)) ?_
                refine AL.val rfl (.inl rfl) (HV.mv rfl) ?_
                obtain ⟨p373, z374, cs375, hz376, hK377, hC378, hP379⟩ := RdK.ix (q := (j : Int)) hr371 sl24 (by omega) (by have e3_ : m.getD i [] = z364 := gd hz366 rfl; rw [← e3_]; omega)
                obtain rfl : cs375 = [.int .i64 z374] := hK377
                refine AL.val rfl (.inl rfl) (hP379 rfl rfl) ?_
                refine AL.val rfl (.inl rfl) (HV.ld rfl va2 (cells_first (hC378.ext X357) rfl)) ?_
                refine AL.val rfl (.inl rfl) (HV.sub rfl rfl (by have e3_ : m.getD i [] = z364 := gd hz366 rfl; have q1 := elem_at (e3_ ▸ hme) hz376; omega)) ?_
                refine AL.val rfl (.inl rfl) (HV.mv rfl) ?_
                refine AL.w rfl (.inl rfl) (WV.call fn88 rfl (rest_ok (W := W) (a - z374) p (by assumption : vS p l).1.1)) ?_
                rintro _ H380 ⟨rfl, hx381⟩
                have X382 := Ext.trans X357 hx381
                have X383 := Ext.trans X358 hx381
                have X384 := Ext.trans X359 hx381
                have X385 := Ext.trans X360 hx381
                have ho386 := ho361.ext hx381
                refine AL.val rfl (.inl rfl) (HV.as rfl) ?_
                refine AL.nil ?_
                refine nrm_blk (nrm_and ?_)
                refine AW.reg ?_
                refine AL.val rfl (.inl rfl) (HV.mv rfl) ?_
                refine AL.val rfl (.inl rfl) (HV.add rfl rfl (by omega)) ?_
                refine AL.val rfl (.inl rfl) (HV.as rfl) ?_
                refine AL.nil ?_
                refine nrm_and ?_
                have e3_ : m.getD i [] = z364 := gd hz366 rfl
                exact ⟨(j + 1, (a - z374) % p), ⟨X382, X383, X384, X385, ho386, by first | omega | (rw [e3_]; omega), by rw [e3_] at ha ⊢; rw [lastE_snoc hz376, ← ha], trivial⟩, by first | omega | (dsimp only; omega), ⟨rfl, rfl, rfl, rfl, rfl, rfl, rfl, rfl, rfl, rfl, rfl, rfl, rfl, rfl, rfl, rfl, rfl, rfl, rfl, rfl, rfl, rfl, rfl, rfl, rfl, trivial⟩⟩
              · -- else
                refine AW.exit ?_
                refine ex_and (ex_and (ex_blk ?_))
                refine nrm_and ?_
                refine AW.reg ?_
                refine AL.val rfl (.inl rfl) (HV.mv rfl) ?_
                refine AL.val rfl (.inl rfl) (HV.mv rfl) ?_
                refine AL.val rfl (.inl rfl) (HV.mv rfl) ?_
                obtain ⟨p387, z388, cs389, hz390, hK391, hC392, hP393⟩ := RdK.ix (q := (i : Int)) hr2 sl36 (by omega) (by omega)
                obtain ⟨v394, rfl, hr395⟩ := hK391
                have hm396 := hr395.max
                refine AL.val rfl (.inl rfl) (hP393 rfl rfl) ?_
                refine AL.val rfl (.inl rfl) (HV.ld rfl va24 (cells_first (hC392.ext X357) rfl)) ?_
                have hzl_ : z388.length ≤ 10 := by have e : m.getD i [] = z388 := gd hz390 rfl; rw [← e]; omega
                have X397 := Ext.refl H356
                have o398 := X357.bd
                have o399 := X358.bd
                have o400 := X359.bd
                have o401 := X360.bd
                have o402 := X397.bd
                have a403 := ho361.ltb
                have ho404 := ho361.okk (ok' := fun b => H310.bd ≤ b ∧ b < H356.bd) (fun b hb hlt => ⟨hb, hlt⟩)
                refine AL.w rfl (.inl rfl) (WV.call fn89 rfl (l00Own_ok (hr395.ext X357) (by omega))) ?_
                rintro v405 H406 ⟨hx407, ho408⟩
                have X409 := Ext.trans X357 hx407
                have X410 := Ext.trans X358 hx407
                have X411 := Ext.trans X359 hx407
                have X412 := Ext.trans X360 hx407
                have X413 := Ext.trans X397 hx407
                have ho414 := ho404.ext hx407
                refine AL.val rfl (.inl rfl) (HV.mv rfl) ?_
                have X416 := Ext.refl H406
                have o417 := X409.bd
                have o418 := X410.bd
                have o419 := X411.bd
                have o420 := X412.bd
                have o421 := X413.bd
                have o422 := X416.bd
                have a423 := ho414.ltb
                have a424 := ho408.ltb
                refine AL.w rfl (.inl rfl) (WV.bsK (K := kI) (l := ([a] : List Int)) (css := [[.int .i64 a]]) sl24 rfl rfl (by first | rfl | (simp [Instr.fill, Value.cells, kI, kB, kU, kS, Kd.sc]; done) | (simp [Instr.fill, Value.cells, kI, kB, kU, kS, Kd.sc, rng1, rng2, rng3, rng4, kP])) rfl (segs_cons rfl segs_nil)) ?_
                rintro v425 H426 ⟨hx427, ho428⟩
                have X429 := Ext.trans X409 hx427
                have X430 := Ext.trans X410 hx427
                have X431 := Ext.trans X411 hx427
                have X432 := Ext.trans X412 hx427
                have X433 := Ext.trans X413 hx427
                have X434 := Ext.trans X416 hx427
                have ho435 := ho414.ext hx427
                have ho436 := ho408.ext hx427
                have X438 := Ext.refl H426
                refine AL.w rfl (.inl rfl) (WV.apk sl24 rfl rfl ho436 ho428.rd (by simp; omega) (by simp; omega) (fun b hb _ e => Nat.lt_irrefl _ (Nat.lt_of_lt_of_le (a424 b e) hb))) ?_
                rintro v439 H440 ⟨hx441, ho442, hb443⟩
                have ho444 := ho442.narrow (ok' := fun b => H356.bd ≤ b) kI_flat (fun b q => (hb443 b q).elim (fun e => (ho436.blk b e).1) (fun e => Nat.le_trans X433.bd e))
                have X445 := Ext.thru X429 hx441 (fun b hb => Nat.le_trans o398 (ho436.blk b hb).1)
                have X446 := Ext.thru X430 hx441 (fun b hb => Nat.le_trans o399 (ho436.blk b hb).1)
                have X447 := Ext.thru X431 hx441 (fun b hb => Nat.le_trans o400 (ho436.blk b hb).1)
                have X448 := Ext.thru X432 hx441 (fun b hb => Nat.le_trans o401 (ho436.blk b hb).1)
                have X449 := Ext.thru X433 hx441 (fun b hb => Nat.le_trans o402 (ho436.blk b hb).1)
                have ho452 := ho435.but hx441 (fun b hb _ e => by have h1 : H310.bd ≤ b ∧ b < H356.bd := hb; have h2 : H356.bd ≤ b := (ho436.blk b e).1; omega) (fun b hb => (ho436.blk b hb).2.2)
                have X454 := Ext.refl H440
                have o455 := X445.bd
                have o456 := X446.bd
                have o457 := X447.bd
                have o458 := X448.bd
                have o459 := X449.bd
                have o460 := X454.bd
                have a461 := ho452.ltb
                have a462 := ho444.ltb
                have hc467 : v439.cells = #[v439] := by obtain ⟨A, c, e⟩ := ho444.isSl; rw [e]; rfl
                refine AL.w rfl (.inl rfl) (WV.bsO (okx := fun b => H356.bd ≤ b) (K := (kO 2 kI)) (l := ([(z388 ++ (([a] : List Int) : List Int))] : List (List Int))) (css := [[v439]]) sl36 rfl rfl (by simp [Instr.fill, hc467, kO, rng1]) rfl (segs_cons ⟨_, rfl, ho444⟩ segs_nil)) ?_
                rintro v463 H464 ⟨hx465, ho466⟩
                have X469 := Ext.trans X445 hx465
                have X470 := Ext.trans X446 hx465
                have X471 := Ext.trans X447 hx465
                have X472 := Ext.trans X448 hx465
                have X473 := Ext.trans X449 hx465
                have X474 := Ext.trans X454 hx465
                have ho475 := ho452.ext hx465
                have ho476 := ho444.ext hx465
                have ho468 := ho466.okk (ok' := fun b => H356.bd ≤ b) (fun b hb _ => hb.elim id (fun e => Nat.le_trans X449.bd e))
                have X478 := Ext.refl H464
                refine AL.w rfl (.inl rfl) (WV.apD (ok := fun b => H310.bd ≤ b) (B := H356.bd) sl36 rfl rfl ho475 ho468.rd X473.bd (by rw [hk2]; omega) (by rw [hk2]; omega)) ?_
                rintro v479 H480 ⟨hx481, ho482, hb483⟩
                have ho484 := ho482.okk (ok' := fun b => H310.bd ≤ b) (fun b hb _ => hb.elim id (fun e => Nat.le_trans o401 e))
                have X485 := Ext.thru X469 hx481 (fun b hb => Nat.le_trans o318 (ho475.blk b hb).1.1)
                have X486 := Ext.thru X470 hx481 (fun b hb => Nat.le_trans o319 (ho475.blk b hb).1.1)
                have X487 := Ext.thru X471 hx481 (fun b hb => Nat.le_trans o320 (ho475.blk b hb).1.1)
                have X488 := Ext.thru X472 hx481 (fun b hb => Nat.le_trans o321 (ho475.blk b hb).1.1)
                refine AL.val rfl (.inl rfl) (HV.as rfl) ?_
                refine AL.nil ?_
                refine nrm_blk (nrm_and ?_)
                refine AW.reg ?_
                refine AL.val rfl (.inl rfl) (HV.mv rfl) ?_
                refine AL.val rfl (.inl rfl) (HV.add rfl rfl (by omega)) ?_
                refine AL.val rfl (.inl rfl) (HV.as rfl) ?_
                refine AL.nil ?_
                refine nrm_and ?_
                exact ⟨(i + 1, v479, (k ++ ([(z388 ++ (([a] : List Int) : List Int))] : List (List Int)))), ⟨X485, X486, X487, X488, by omega, by have hj2 : j = (m.getD i []).length := (by omega); rw [enrN_succ, hk]; exact congrArg (fun z => enrN p l m x i ++ [z]) (show enrE p l m x i = z388 ++ [a] by unfold enrE; rw [ha, hj2, List.take_length, (gd hz390 rfl : m.getD i [] = z388)]).symm, by simp [hk2], ho484, trivial⟩, by first | omega | (dsimp only; omega), ⟨rfl, rfl, rfl, rfl, rfl, rfl, rfl, rfl, rfl, trivial⟩⟩
            · -- else
              refine AW.exit ?_
              refine ex_and (ex_and (ex_blk ?_))
              refine nrm_and ?_
              refine AW.rs ?_
              refine AL.val rfl (.inl rfl) (HV.mv rfl) ?_
              refine AL.val rfl (.inl rfl) (HV.as rfl) ?_
              refine AL.val rfl (.inl rfl) (HV.as rfl) ?_
              refine AL.nx ?_
              refine AW.ret ?_
              refine post_two rfl rfl rfl ?_ (.inr rfl)
              have hq_ := en0 hv hgd hn0; exact ⟨⟨_, _, by rw [hq_.1], hq_.2.symm, by have e : i = l.length := (by omega); have q := hoL.okk (fun b hb _ => Nat.le_trans o318 hb); rw [hk, e] at q; exact q⟩, X333⟩
    · -- false
      have c21_ : decide (0 ≤ x ∧ x ≤ (p - 1)) = false := decide_eq_false c21
      rw [c21_]
      refine AL.off rfl rfl (by decide) rfl ?_
      refine AL.off rfl rfl (by decide) rfl ?_
      refine AL.off rfl rfl (by decide) rfl ?_
      refine AL.off rfl rfl (by decide) rfl ?_
      refine AL.val rfl (.inl rfl) (HV.pickF rfl rfl) ?_
      refine AL.val rfl (.inl rfl) (HV.as rfl) ?_
      refine AL.nx ?_
      refine AW.seq ?_
      refine AW.rs ?_
      refine AL.val rfl (.inl rfl) (HV.as rfl) ?_
      refine AL.nx ?_
      refine AW.block ?_
      have X492 := Ext.refl H18
      refine AW.loop (σ := Nat × Bool) (fun ⟨i, fd⟩ => [(0, .int .i64 p), (1, v), (2, .int .i64 x), (3, vm), (8, (.slice none 0 0)), (9, .int .i64 0), (10, .int .i64 (l.length : Int)), (11, .bool fd), (12, .int .i64 (i : Int))]) (fun ⟨i, fd⟩ H' => Ext H H' ∧ Ext H18 H' ∧ i ≤ m.length ∧ (fd = true → ((0 ≤ x ∧ x ≤ p - 1) ∧ (m.length : Int) = l.length) ∧ ∀ j, j < i → rowOk l.length p (m.getD j [])) ∧ (fd = false → ¬ gdE p l m x) ∧ True) (fun ⟨i, fd⟩ => m.length - i) (0, false) ⟨X20, X492, Nat.zero_le _, (fun h => by cases h), (fun _ hg => absurd hg.1.1 (by assumption)), trivial⟩ ⟨rfl, rfl, rfl, rfl, rfl, rfl, rfl, rfl, rfl, trivial⟩ ?_
      rintro ⟨i, fd⟩ H493 ⟨X494, X495, hi, hfd, hbad, _⟩
      refine AW.seq ?_
      refine AW.rs ?_
      refine AL.val rfl (.inl rfl) (HV.mv rfl) ?_
      refine AL.val rfl (.inl rfl) (HV.mv rfl) ?_
      refine AL.val rfl (.inl rfl) (HV.len Try.underlying36 rfl hr2.isSl) ?_
      refine AL.val rfl (.inl rfl) (HV.lti rfl rfl) ?_
      refine AL.val rfl (.inl rfl) (HV.mv rfl) ?_
      by_cases c496 : (i : Int) < (m.length : Int)
      · -- true
        have c496_ : decide ((i : Int) < (m.length : Int)) = true := decide_eq_true c496
        rw [c496_]
        refine AL.val rfl (.inr ⟨_, _, _, rfl, rfl, rfl⟩) (HV.mv rfl) ?_
        refine AL.val rfl (.inl rfl) (HV.pickT rfl rfl) ?_
        refine AL.nx ?_
        refine AW.cond rfl (fun c497 => ?_) (fun c497 => ?_)
        · -- then
          refine AW.skip ?_
          refine nrm_and ?_
          refine AW.seq ?_
          refine AW.block ?_
          refine AW.reg ?_
          refine AL.val rfl (.inl rfl) (HV.mv rfl) ?_
          refine AL.val rfl (.inl rfl) (HV.mv rfl) ?_
          obtain ⟨p498, z499, cs500, hz501, hK502, hC503, hP504⟩ := RdK.ix (q := (i : Int)) hr2 sl36 (by omega) (by omega)
          obtain ⟨v505, rfl, hr506⟩ := hK502
          have hm507 := hr506.max
          refine AL.val rfl (.inl rfl) (hP504 rfl rfl) ?_
          refine AL.val rfl (.inl rfl) (HV.ld rfl va24 (cells_first (hC503.ext X494) rfl)) ?_
          refine AL.val rfl (.inl rfl) (HV.len Try.underlying24 rfl hr506.isSl) ?_
          refine AL.val rfl (.inl rfl) (HV.mv rfl) ?_
          refine AL.val rfl (.inl rfl) (HV.sub rfl rfl (by omega)) ?_
          refine AL.val rfl (.inl rfl) (HV.eqi rfl rfl) ?_
          refine AL.val rfl (.inl rfl) (HV.mv rfl) ?_
          by_cases c508 : (z499.length : Int) = ((l.length : Int) - 1)
          · -- true
            have c508_ : decide ((z499.length : Int) = ((l.length : Int) - 1)) = true := decide_eq_true c508
            rw [c508_]
            refine AL.val rfl (.inr ⟨_, _, _, rfl, rfl, rfl⟩) (HV.mv rfl) ?_
            refine AL.val rfl (.inr ⟨_, _, _, rfl, rfl, rfl⟩) (HV.mv rfl) ?_
            refine AL.val rfl (.inr ⟨_, _, _, rfl, rfl, rfl⟩) (HV.mv rfl) ?_
            obtain ⟨p509, z510, cs511, hz512, hK513, hC514, hP515⟩ := RdK.ix (q := (i : Int)) hr2 sl36 (by omega) (by omega)
            obtain ⟨v516, rfl, hr517⟩ := hK513
            have hm518 := hr517.max
            refine AL.val rfl (.inr ⟨_, _, _, rfl, rfl, rfl⟩) (hP515 rfl rfl) ?_
            refine AL.val rfl (.inr ⟨_, _, _, rfl, rfl, rfl⟩) (HV.ld rfl va24 (cells_first (hC514.ext X494) rfl)) ?_
            refine AL.w rfl (.inr ⟨_, _, _, rfl, rfl, rfl⟩) (WV.call fn86 rfl (resid_ok (hr517.ext X494) (by assumption : vS p l).1.1)) ?_
            rintro _ H519 ⟨rfl, hx520⟩
            have X521 := Ext.trans X494 hx520
            have X522 := Ext.trans X495 hx520
            refine AL.val rfl (.inl rfl) (HV.pickT rfl rfl) ?_
            refine AL.val rfl (.inl rfl) (HV.as rfl) ?_
            refine AL.nil ?_
            refine nrm_blk (nrm_and ?_)
            refine AW.reg ?_
            refine AL.val rfl (.inl rfl) (HV.mv rfl) ?_
            refine AL.val rfl (.inl rfl) (HV.add rfl rfl (by omega)) ?_
            refine AL.val rfl (.inl rfl) (HV.as rfl) ?_
            refine AL.nil ?_
            refine nrm_and ?_
            exact ⟨(i + 1, decide (elems p z510)), ⟨X521, X522, by omega, (fun h => ⟨(hfd (by assumption : fd = true)).1, fun j hj => (Nat.lt_or_ge j i).elim (fun h1 => (hfd (by assumption : fd = true)).2 j h1) (fun h1 => by obtain rfl : j = i := (by omega); rw [(gd hz501 rfl : m.getD j [] = z499)]; exact ⟨by assumption, (show z510 = z499 from same_at hz501 hz512) ▸ of_decide_eq_true h⟩)⟩), (fun h hg => by have q := (hg.2 i (by omega)).2; rw [(gd hz512 rfl : m.getD i [] = z510)] at q; exact of_decide_eq_false h q), trivial⟩, by first | omega | (dsimp only; omega), ⟨rfl, rfl, rfl, rfl, rfl, rfl, rfl, rfl, rfl, trivial⟩⟩
          · -- false
            have c508_ : decide ((z499.length : Int) = ((l.length : Int) - 1)) = false := decide_eq_false c508
            rw [c508_]
            refine AL.off rfl rfl (by decide) rfl ?_
            refine AL.off rfl rfl (by decide) rfl ?_
            refine AL.off rfl rfl (by decide) rfl ?_
            refine AL.off rfl rfl (by decide) rfl ?_
            refine AL.off rfl rfl (by decide) rfl ?_
            refine AL.off rfl rfl (by decide) rfl ?_
            refine AL.val rfl (.inl rfl) (HV.pickF rfl rfl) ?_
            refine AL.val rfl (.inl rfl) (HV.as rfl) ?_
            refine AL.nil ?_
            refine nrm_blk (nrm_and ?_)
            refine AW.reg ?_
            refine AL.val rfl (.inl rfl) (HV.mv rfl) ?_
            refine AL.val rfl (.inl rfl) (HV.add rfl rfl (by omega)) ?_
            refine AL.val rfl (.inl rfl) (HV.as rfl) ?_
            refine AL.nil ?_
            refine nrm_and ?_
            exact ⟨(i + 1, false), ⟨X494, X495, by omega, (fun h => by cases h), (fun _ hg => by have q := (hg.2 i (by omega)).1; rw [(gd hz501 rfl : m.getD i [] = z499)] at q; exact absurd q (by assumption)), trivial⟩, by first | omega | (dsimp only; omega), ⟨rfl, rfl, rfl, rfl, rfl, rfl, rfl, rfl, rfl, trivial⟩⟩
        · -- else
          refine AW.exit ?_
          refine ex_and (ex_and (ex_blk ?_))
          refine nrm_and ?_
          refine AW.seq ?_
          refine AW.rs ?_
          refine AL.val rfl (.inl rfl) (HV.mv rfl) ?_
          refine AL.val rfl (.inl rfl) (HV.not rfl) ?_
          refine AL.nx ?_
          refine AW.cond rfl (fun c523 => ?_) (fun c523 => ?_)
          · -- then
            refine AW.rs ?_
            have X524 := Ext.refl H493
            have o525 := X494.bd
            have o526 := X495.bd
            have o527 := X524.bd
            refine AL.w rfl (.inl rfl) (WV.bsK (K := (kO 2 kI)) (l := ([] : List (List Int))) (css := []) sl36 rfl rfl (by first | rfl | (simp [Instr.fill, Value.cells, kI, kB, kU, kS, Kd.sc]; done) | (simp [Instr.fill, Value.cells, kI, kB, kU, kS, Kd.sc, rng1, rng2, rng3, rng4, kP])) rfl segs_nil) ?_
            rintro v528 H529 ⟨hx530, ho531⟩
            have X532 := Ext.trans X494 hx530
            have X533 := Ext.trans X495 hx530
            have X534 := Ext.trans X524 hx530
            have ho535 := ho531.deep0
            refine AL.val rfl (.inl rfl) (HV.as rfl) ?_
            refine AL.val rfl (.inl rfl) (HV.as rfl) ?_
            refine AL.nx ?_
            refine AW.ret ?_
            refine ret_and ?_
            refine post_two rfl rfl rfl ?_ (.inr rfl)
            have hv : vS p l := (by assumption); have hq_ := en2 (L := m) (at_ := x) hv (fun h => hbad (by simpa using c523) h); exact ⟨⟨_, [], by rw [hq_.1], hq_.2.symm, ho535.okk (fun b hb _ => Nat.le_trans o525 hb)⟩, X532⟩
          · -- else
            refine AW.skip ?_
            refine nrm_and ?_
            refine AW.seq ?_
            refine AW.rs ?_
            refine AL.val rfl (.inl rfl) (HV.mv rfl) ?_
            refine AL.val rfl (.inl rfl) (HV.eqi rfl rfl) ?_
            refine AL.nx ?_
            refine AW.ifd rfl (fun c537 => ?_) (fun c537 => ?_)
            · -- then
              refine AW.rs ?_
              have X538 := Ext.refl H493
              have o539 := X494.bd
              have o540 := X495.bd
              have o541 := X538.bd
              refine AL.w rfl (.inl rfl) (WV.bsK (K := (kO 2 kI)) (l := ([] : List (List Int))) (css := []) sl36 rfl rfl (by first | rfl | (simp [Instr.fill, Value.cells, kI, kB, kU, kS, Kd.sc]; done) | (simp [Instr.fill, Value.cells, kI, kB, kU, kS, Kd.sc, rng1, rng2, rng3, rng4, kP])) rfl segs_nil) ?_
              rintro v542 H543 ⟨hx544, ho545⟩
              have X546 := Ext.trans X494 hx544
              have X547 := Ext.trans X495 hx544
              have X548 := Ext.trans X538 hx544
              have ho549 := ho545.deep0
              refine AL.val rfl (.inl rfl) (HV.as rfl) ?_
              refine AL.val rfl (.inl rfl) (HV.as rfl) ?_
              refine AL.nx ?_
              refine AW.ret ?_
              refine ret_and ?_
              refine post_two rfl rfl rfl ?_ (.inr rfl)
              have hv : vS p l := (by assumption); have hgd : gdE p l m x := (by have hfd1 : fd = true := (by simpa using (by assumption : (!fd) = false)); first | exact ⟨(hfd hfd1).1, fun j hj => (hfd hfd1).2 j (by omega)⟩ | exact absurd (hfd1.symm.trans (by assumption : fd = false)) (by decide)); have hq_ := en4 hv hgd c537; exact ⟨⟨_, [], by rw [hq_.1], hq_.2.symm, ho549.okk (fun b hb _ => Nat.le_trans o539 hb)⟩, X546⟩
            · -- else
              refine AW.skip ?_
              refine nrm_and ?_
              refine AW.rs ?_
              have hv : vS p l := (by assumption)
              have hgd : gdE p l m x := (by have hfd1 : fd = true := (by simpa using (by assumption : (!fd) = false)); first | exact ⟨(hfd hfd1).1, fun j hj => (hfd hfd1).2 j (by omega)⟩ | exact absurd (hfd1.symm.trans (by assumption : fd = false)) (by decide))
              have hn0 : (l.length : Int) ≠ 0 := (by assumption)
              have hp := hv.1.1
              have hq := isPr_of hv.1
              have hpl := hv.2.2
              have hpl2 := hpl.1
              rw [List.length_map] at hpl2
              have hx_ := hgd.1.1
              have hlm := hgd.1.2
              have hwl : (wts p (l.map Prod.fst) x (l.map Prod.fst).length).length = l.length := by rw [wts_len, List.length_map]
              refine AL.val rfl (.inl rfl) (HV.mv rfl) ?_
              refine AL.val rfl (.inl rfl) (HV.mv rfl) ?_
              refine AL.w rfl (.inl rfl) (WV.call fn70 rfl (places_ok (hr.ext X494) hl)) ?_
              rintro v551 H552 ⟨hx553, ho554⟩
              have X556 := Ext.trans X494 hx553
              have X557 := Ext.trans X495 hx553
              have X558 := Ext.refl H552
              have hr555 : RdK kI W H552 _ v551 (l.map Prod.fst) := ho554.rd
              refine AL.val rfl (.inl rfl) (HV.mv rfl) ?_
              refine AL.w rfl (.inl rfl) (WV.call fn87 rfl (l05Wts_ok p x hr555 hq hx_ hpl.2 (by have := hpl.1; omega))) ?_
              rintro v559 H560 ⟨hx561, ho562⟩
              have X564 := Ext.trans X556 hx561
              have X565 := Ext.trans X557 hx561
              have X566 := Ext.trans X558 hx561
              have X567 := Ext.refl H560
              have hr563 : RdK kI W H560 _ v559 (wts p (l.map Prod.fst) x (l.map Prod.fst).length) := ho562.rd
              refine AL.val rfl (.inl rfl) (HV.as rfl) ?_
              refine AL.nx ?_
              refine AW.rs ?_
              have o568 := X564.bd
              have o569 := X565.bd
              have o570 := X566.bd
              have o571 := X567.bd
              refine AL.w rfl (.inl rfl) (WV.bsK (K := (kO 2 kI)) (l := ([] : List (List Int))) (css := []) sl36 rfl rfl (by first | rfl | (simp [Instr.fill, Value.cells, kI, kB, kU, kS, Kd.sc]; done) | (simp [Instr.fill, Value.cells, kI, kB, kU, kS, Kd.sc, rng1, rng2, rng3, rng4, kP])) rfl segs_nil) ?_
              rintro v572 H573 ⟨hx574, ho575⟩
              have X576 := Ext.trans X564 hx574
              have X577 := Ext.trans X565 hx574
              have X578 := Ext.trans X566 hx574
              have X579 := Ext.trans X567 hx574
              have ho580 := ho575.deep0
              refine AL.val rfl (.inl rfl) (HV.as rfl) ?_
              refine AL.nx ?_
              refine AW.seq ?_
              refine AW.rs ?_
              refine AL.val rfl (.inl rfl) (HV.as rfl) ?_
              refine AL.nx ?_
              refine AW.block ?_
              refine AW.loop (σ := Nat × Value × List (List Int)) (fun ⟨i, vv, k⟩ => [(0, .int .i64 p), (1, v), (3, vm), (8, (.slice none 0 0)), (9, .int .i64 0), (10, .int .i64 (l.length : Int)), (13, v559), (14, vv), (15, .int .i64 (i : Int))]) (fun ⟨i, vv, k⟩ H' => Ext H H' ∧ Ext H18 H' ∧ Ext H552 H' ∧ Ext H560 H' ∧ i ≤ l.length ∧ k = enrN p l m x i ∧ k.length = i ∧ OwnD (kO 2 kI) 24 W H' (fun b => H560.bd ≤ b) vv k ∧ True) (fun ⟨i, vv, k⟩ => l.length - i) (0, v572, (([] : List (List Int)) : List (List Int))) ⟨X576, X577, X578, X579, Nat.zero_le _, rfl, rfl, ho580, trivial⟩ ⟨rfl, rfl, rfl, rfl, rfl, rfl, rfl, rfl, rfl, trivial⟩ ?_
              rintro ⟨i, vv, k⟩ H582 ⟨X583, X584, X585, X586, hi, hk, hk2, hoL, _⟩
              refine AW.seq ?_
              refine AW.rs ?_
              refine AL.val rfl (.inl rfl) (HV.mv rfl) ?_
              refine AL.val rfl (.inl rfl) (HV.mv rfl) ?_
              refine AL.val rfl (.inl rfl) (HV.lti rfl rfl) ?_
              refine AL.nx ?_
              refine AW.ifd rfl (fun c587 => ?_) (fun c587 => ?_)
              · -- then
                refine AW.skip ?_
                refine nrm_and ?_
                refine AW.seq ?_
                refine AW.block ?_
                refine AW.seq ?_
                refine AW.draw' [0, 0, 3, 7, 0, 0, 48, 112, 240, 511, 0, 2047, 4095] mixed (by rfl) ?_
                refine Dr.read 0 _ 77 _ rfl rfl rfl rfl rfl (RV.of (by intro _ _ h; cases h) (.inl rfl) (fun _ xd => HV.mv rfl)) ?_
                refine Dr.read 1 _ 78 _ rfl rfl rfl rfl rfl (RV.of (by intro _ _ h; cases h) (.inl rfl) (fun _ xd => HV.mv rfl)) ?_
                obtain ⟨p588, z589, cs590, hz591, hK592, hC593, hP594⟩ := RdK.ix (q := (i : Int)) hr563 sl24 (by omega) (by omega)
                obtain rfl : cs590 = [.int .i64 z589] := hK592
                refine Dr.read 2 _ 79 _ rfl rfl rfl rfl rfl (RV.of (by intro _ _ h; cases h) (.inl rfl) (fun _ xd => hP594 rfl rfl)) ?_
                refine Dr.read 3 _ 80 _ rfl rfl rfl rfl rfl (RV.of (by intro _ _ h; cases h) (.inl rfl) (fun _ xd => HV.ld rfl va2 (rdc_ext xd (cells_first (hC593.ext X586) rfl)))) ?_
                refine Dr.read 4 _ 81 _ rfl rfl rfl rfl rfl (RV.of (by intro _ _ h; cases h) (.inl rfl) (fun _ xd => HV.mv rfl)) ?_
                refine Dr.read 5 _ 82 _ rfl rfl rfl rfl rfl (RV.of (by intro _ _ h; cases h) (.inl rfl) (fun _ xd => HV.mv rfl)) ?_
                obtain ⟨p595, z596, cs597, hz598, hK599, hC600, hP601⟩ := RdK.ix (q := (i : Int)) hr sl27 (by omega) (by omega)
                obtain ⟨cs602, cs603, rfl, hK604, hK605⟩ := hK599
                obtain rfl : cs602 = [.int .i64 z596.1] := hK604
                obtain rfl : cs603 = [.int .i64 z596.2] := hK605
                refine Dr.read 6 _ 83 _ rfl rfl rfl rfl rfl (RV.of (by intro _ _ h; cases h) (.inl rfl) (fun _ xd => hP601 rfl rfl)) ?_
                refine Dr.read 7 _ 84 _ rfl rfl rfl rfl rfl (RV.of (by intro _ _ h; cases h) (.inl rfl) (fun _ xd => HV.fa fl68_1 rfl)) ?_
                refine Dr.read 8 _ 85 _ rfl rfl rfl rfl rfl (RV.of (by intro _ _ h; cases h) (.inl rfl) (fun _ xd => HV.ld rfl va2 (rdc_ext xd (cells_at (hC600.ext X583) rfl)))) ?_
                refine Dr.read 9 _ 86 _ rfl rfl rfl rfl rfl (RV.of (by intro _ _ h; cases h) (.inl rfl) (fun _ xd => HV.mul rfl rfl (by have q1 := wts_at (show 2 ≤ p by omega) hz591; have q2 : 0 ≤ z596.2 ∧ z596.2 ≤ p - 1 := (vS_bnd hv _ (List.mem_of_getElem? hz598)).2; have q3 := mul31 (a := z589) (b := z596.2) (by omega) (by omega) (by omega) (by omega); omega))) ?_
                refine Dr.read 10 _ 87 _ rfl rfl rfl rfl rfl (RV.of (by intro _ _ h; cases h) (.inl rfl) (fun _ xd => HV.mv rfl)) ?_
                refine Dr.read 11 _ 88 _ rfl rfl rfl rfl rfl (RV.of (by intro _ _ h; cases h) (.inl rfl) (fun _ xd => HV.rem rfl rfl (by have q1 := wts_at (show 2 ≤ p by omega) hz591; have q2 : 0 ≤ z596.2 ∧ z596.2 ≤ p - 1 := (vS_bnd hv _ (List.mem_of_getElem? hz598)).2; have q3 := mul31 (a := z589) (b := z596.2) (by omega) (by omega) (by omega) (by omega); omega))) ?_
                refine Dr.read 12 _ 16 _ rfl rfl rfl rfl rfl (RV.of (by intro _ _ h; cases h) (.inl rfl) (fun _ xd => HV.as rfl)) ?_
                refine Dr.fin rfl ?_
                refine nrm_and ?_
                refine AW.seq ?_
                refine AW.rs ?_
                refine AL.val rfl (.inl rfl) (HV.as rfl) ?_
                refine AL.nx ?_
                refine AW.block ?_
                have hml := (hgd.2 i (by omega)).1
                have hme := (hgd.2 i (by omega)).2
                have ha0 := emod_bd (show 0 < p by omega) ((wts p (l.map Prod.fst) x (l.map Prod.fst).length).getD i 0 * (l.getD i (0, 0)).2)
                refine AW.loop (σ := Nat × Int) (fun ⟨j, a⟩ => [(0, .int .i64 p), (1, v), (3, vm), (8, (.slice none 0 0)), (9, .int .i64 0), (10, .int .i64 (l.length : Int)), (13, v559), (14, vv), (15, .int .i64 (i : Int)), (72, .int .i64 (i : Int)), (73, .int .i64 (l.length : Int)), (74, .bool (decide ((i : Int) < (l.length : Int)))), (77, v559), (78, .int .i64 (i : Int)), (79, .pointer (some p588)), (80, .int .i64 z589), (81, v), (82, .int .i64 (i : Int)), (83, .pointer (some p595)), (85, .int .i64 z596.2), (86, .int .i64 (z589 * z596.2)), (87, .int .i64 p), (88, .int .i64 ((z589 * z596.2) % p)), (16, .int .i64 a), (17, .int .i64 (j : Int))]) (fun ⟨j, a⟩ H' => Ext H H' ∧ Ext H18 H' ∧ Ext H552 H' ∧ Ext H560 H' ∧ OwnD (kO 2 kI) 24 W H' (fun b => H560.bd ≤ b) vv k ∧ j ≤ (m.getD i []).length ∧ a = lastE p ((wts p (l.map Prod.fst) x (l.map Prod.fst).length).getD i 0 * (l.getD i (0, 0)).2 % p) ((m.getD i []).take j) ∧ True) (fun ⟨j, a⟩ => (m.getD i []).length - j) (0, (z589 * z596.2) % p) ⟨X583, X584, X585, X586, hoL, Nat.zero_le _, by have e1 : (wts p (l.map Prod.fst) x (l.map Prod.fst).length).getD i 0 = z589 := gd hz591 rfl; have e2 : (l.getD i (0, 0)).2 = z596.2 := congrArg Prod.snd (gd hz598 rfl : l.getD i (0, 0) = z596); rw [e1, e2]; rfl, trivial⟩ ⟨rfl, rfl, rfl, rfl, rfl, rfl, rfl, rfl, rfl, rfl, rfl, rfl, rfl, rfl, rfl, rfl, rfl, rfl, rfl, rfl, rfl, rfl, rfl, rfl, rfl, trivial⟩ ?_
                rintro ⟨j, a⟩ H606 ⟨X607, X608, X609, X610, ho611, hj, ha, _⟩
                have hain := lastE_in (show 0 < p by omega) ha0 ((m.getD i []).take j)
                rw [← ha] at hain
                refine AW.seq ?_
                refine AW.rs ?_
                refine AL.val rfl (.inl rfl) (HV.mv rfl) ?_
                refine AL.val rfl (.inl rfl) (HV.mv rfl) ?_
                refine AL.val rfl (.inl rfl) (HV.sub rfl rfl (by omega)) ?_
                refine AL.val rfl (.inl rfl) (HV.lti rfl rfl) ?_
                refine AL.nx ?_
                refine AW.ifd rfl (fun c612 => ?_) (fun c612 => ?_)
                · -- then
                  refine AW.skip ?_
                  refine nrm_and ?_
                  refine AW.seq ?_
                  refine AW.block ?_
                  refine AW.reg ?_
                  refine AL.val rfl (.inl rfl) (HV.mv rfl) ?_
                  refine AL.val rfl (.inl rfl) (HV.mv rfl) ?_
                  refine AL.val rfl (.inl rfl) (HV.mv rfl) ?_
                  obtain ⟨p613, z614, cs615, hz616, hK617, hC618, hP619⟩ := RdK.ix (q := (i : Int)) hr2 sl36 (by omega) (by omega)
                  obtain ⟨v620, rfl, hr621⟩ := hK617
                  have hm622 := hr621.max
                  refine AL.val rfl (.inl rfl) (hP619 rfl rfl) ?_
                  refine AL.val rfl (.inl rfl) (HV.ld rfl va24 (cells_first (hC618.ext X607) rfl)) ?_
                  refine AL.val rfl (.inl rfl) (HV.mv rfl) ?_
                  obtain ⟨p623, z624, cs625, hz626, hK627, hC628, hP629⟩ := RdK.ix (q := (j : Int)) hr621 sl24 (by omega) (by have e3_ : m.getD i [] = z614 := gd hz616 rfl; rw [← e3_]; omega)
                  obtain rfl : cs625 = [.int .i64 z624] := hK627
                  refine AL.val rfl (.inl rfl) (hP629 rfl rfl) ?_
                  refine AL.val rfl (.inl rfl) (HV.ld rfl va2 (cells_first (hC628.ext X607) rfl)) ?_
                  refine AL.val rfl (.inl rfl) (HV.sub rfl rfl (by have e3_ : m.getD i [] = z614 := gd hz616 rfl; have q1 := elem_at (e3_ ▸ hme) hz626; omega)) ?_
                  refine AL.val rfl (.inl rfl) (HV.mv rfl) ?_
                  refine AL.w rfl (.inl rfl) (WV.call fn88 rfl (rest_ok (W := W) (a - z624) p (by assumption : vS p l).1.1)) ?_
                  rintro _ H630 ⟨rfl, hx631⟩
                  have X632 := Ext.trans X607 hx631
                  have X633 := Ext.trans X608 hx631
                  have X634 := Ext.trans X609 hx631
                  have X635 := Ext.trans X610 hx631
                  have ho636 := ho611.ext hx631
                  refine AL.val rfl (.inl rfl) (HV.as rfl) ?_
                  refine AL.nil ?_
                  refine nrm_blk (nrm_and ?_)
                  refine AW.reg ?_
                  refine AL.val rfl (.inl rfl) (HV.mv rfl) ?_
                  refine AL.val rfl (.inl rfl) (HV.add rfl rfl (by omega)) ?_
                  refine AL.val rfl (.inl rfl) (HV.as rfl) ?_
                  refine AL.nil ?_
                  refine nrm_and ?_
                  have e3_ : m.getD i [] = z614 := gd hz616 rfl
                  exact ⟨(j + 1, (a - z624) % p), ⟨X632, X633, X634, X635, ho636, by first | omega | (rw [e3_]; omega), by rw [e3_] at ha ⊢; rw [lastE_snoc hz626, ← ha], trivial⟩, by first | omega | (dsimp only; omega), ⟨rfl, rfl, rfl, rfl, rfl, rfl, rfl, rfl, rfl, rfl, rfl, rfl, rfl, rfl, rfl, rfl, rfl, rfl, rfl, rfl, rfl, rfl, rfl, rfl, rfl, trivial⟩⟩
                · -- else
                  refine AW.exit ?_
                  refine ex_and (ex_and (ex_blk ?_))
                  refine nrm_and ?_
                  refine AW.reg ?_
                  refine AL.val rfl (.inl rfl) (HV.mv rfl) ?_
                  refine AL.val rfl (.inl rfl) (HV.mv rfl) ?_
                  refine AL.val rfl (.inl rfl) (HV.mv rfl) ?_
                  obtain ⟨p637, z638, cs639, hz640, hK641, hC642, hP643⟩ := RdK.ix (q := (i : Int)) hr2 sl36 (by omega) (by omega)
                  obtain ⟨v644, rfl, hr645⟩ := hK641
                  have hm646 := hr645.max
                  refine AL.val rfl (.inl rfl) (hP643 rfl rfl) ?_
                  refine AL.val rfl (.inl rfl) (HV.ld rfl va24 (cells_first (hC642.ext X607) rfl)) ?_
                  have hzl_ : z638.length ≤ 10 := by have e : m.getD i [] = z638 := gd hz640 rfl; rw [← e]; omega
                  have X647 := Ext.refl H606
                  have o648 := X607.bd
                  have o649 := X608.bd
                  have o650 := X609.bd
                  have o651 := X610.bd
                  have o652 := X647.bd
                  have a653 := ho611.ltb
                  have ho654 := ho611.okk (ok' := fun b => H560.bd ≤ b ∧ b < H606.bd) (fun b hb hlt => ⟨hb, hlt⟩)
                  refine AL.w rfl (.inl rfl) (WV.call fn89 rfl (l00Own_ok (hr645.ext X607) (by omega))) ?_
                  rintro v655 H656 ⟨hx657, ho658⟩
                  have X659 := Ext.trans X607 hx657
                  have X660 := Ext.trans X608 hx657
                  have X661 := Ext.trans X609 hx657
                  have X662 := Ext.trans X610 hx657
                  have X663 := Ext.trans X647 hx657
                  have ho664 := ho654.ext hx657
                  refine AL.val rfl (.inl rfl) (HV.mv rfl) ?_
                  have X666 := Ext.refl H656
                  have o667 := X659.bd
                  have o668 := X660.bd
                  have o669 := X661.bd
                  have o670 := X662.bd
                  have o671 := X663.bd
                  have o672 := X666.bd
                  have a673 := ho664.ltb
                  have a674 := ho658.ltb
                  refine AL.w rfl (.inl rfl) (WV.bsK (K := kI) (l := ([a] : List Int)) (css := [[.int .i64 a]]) sl24 rfl rfl (by first | rfl | (simp [Instr.fill, Value.cells, kI, kB, kU, kS, Kd.sc]; done) | (simp [Instr.fill, Value.cells, kI, kB, kU, kS, Kd.sc, rng1, rng2, rng3, rng4, kP])) rfl (segs_cons rfl segs_nil)) ?_
                  rintro v675 H676 ⟨hx677, ho678⟩
                  have X679 := Ext.trans X659 hx677
                  have X680 := Ext.trans X660 hx677
                  have X681 := Ext.trans X661 hx677
                  have X682 := Ext.trans X662 hx677
                  have X683 := Ext.trans X663 hx677
                  have X684 := Ext.trans X666 hx677
                  have ho685 := ho664.ext hx677
                  have ho686 := ho658.ext hx677
                  have X688 := Ext.refl H676
                  refine AL.w rfl (.inl rfl) (WV.apk sl24 rfl rfl ho686 ho678.rd (by simp; omega) (by simp; omega) (fun b hb _ e => Nat.lt_irrefl _ (Nat.lt_of_lt_of_le (a674 b e) hb))) ?_
                  rintro v689 H690 ⟨hx691, ho692, hb693⟩
                  have ho694 := ho692.narrow (ok' := fun b => H606.bd ≤ b) kI_flat (fun b q => (hb693 b q).elim (fun e => (ho686.blk b e).1) (fun e => Nat.le_trans X683.bd e))
                  have X695 := Ext.thru X679 hx691 (fun b hb => Nat.le_trans o648 (ho686.blk b hb).1)
                  have X696 := Ext.thru X680 hx691 (fun b hb => Nat.le_trans o649 (ho686.blk b hb).1)
                  have X697 := Ext.thru X681 hx691 (fun b hb => Nat.le_trans o650 (ho686.blk b hb).1)
                  have X698 := Ext.thru X682 hx691 (fun b hb => Nat.le_trans o651 (ho686.blk b hb).1)
                  have X699 := Ext.thru X683 hx691 (fun b hb => Nat.le_trans o652 (ho686.blk b hb).1)
                  have ho702 := ho685.but hx691 (fun b hb _ e => by have h1 : H560.bd ≤ b ∧ b < H606.bd := hb; have h2 : H606.bd ≤ b := (ho686.blk b e).1; omega) (fun b hb => (ho686.blk b hb).2.2)
                  have X704 := Ext.refl H690
                  have o705 := X695.bd
                  have o706 := X696.bd
                  have o707 := X697.bd
                  have o708 := X698.bd
                  have o709 := X699.bd
                  have o710 := X704.bd
                  have a711 := ho702.ltb
                  have a712 := ho694.ltb
                  have hc717 : v689.cells = #[v689] := by obtain ⟨A, c, e⟩ := ho694.isSl; rw [e]; rfl
                  refine AL.w rfl (.inl rfl) (WV.bsO (okx := fun b => H606.bd ≤ b) (K := (kO 2 kI)) (l := ([(z638 ++ (([a] : List Int) : List Int))] : List (List Int))) (css := [[v689]]) sl36 rfl rfl (by simp [Instr.fill, hc717, kO, rng1]) rfl (segs_cons ⟨_, rfl, ho694⟩ segs_nil)) ?_
                  rintro v713 H714 ⟨hx715, ho716⟩
                  have X719 := Ext.trans X695 hx715
                  have X720 := Ext.trans X696 hx715
                  have X721 := Ext.trans X697 hx715
                  have X722 := Ext.trans X698 hx715
                  have X723 := Ext.trans X699 hx715
                  have X724 := Ext.trans X704 hx715
                  have ho725 := ho702.ext hx715
                  have ho726 := ho694.ext hx715
                  have ho718 := ho716.okk (ok' := fun b => H606.bd ≤ b) (fun b hb _ => hb.elim id (fun e => Nat.le_trans X699.bd e))
                  have X728 := Ext.refl H714
                  refine AL.w rfl (.inl rfl) (WV.apD (ok := fun b => H560.bd ≤ b) (B := H606.bd) sl36 rfl rfl ho725 ho718.rd X723.bd (by rw [hk2]; omega) (by rw [hk2]; omega)) ?_
                  rintro v729 H730 ⟨hx731, ho732, hb733⟩
                  have ho734 := ho732.okk (ok' := fun b => H560.bd ≤ b) (fun b hb _ => hb.elim id (fun e => Nat.le_trans o651 e))
                  have X735 := Ext.thru X719 hx731 (fun b hb => Nat.le_trans o568 (ho725.blk b hb).1.1)
                  have X736 := Ext.thru X720 hx731 (fun b hb => Nat.le_trans o569 (ho725.blk b hb).1.1)
                  have X737 := Ext.thru X721 hx731 (fun b hb => Nat.le_trans o570 (ho725.blk b hb).1.1)
                  have X738 := Ext.thru X722 hx731 (fun b hb => Nat.le_trans o571 (ho725.blk b hb).1.1)
                  refine AL.val rfl (.inl rfl) (HV.as rfl) ?_
                  refine AL.nil ?_
                  refine nrm_blk (nrm_and ?_)
                  refine AW.reg ?_
                  refine AL.val rfl (.inl rfl) (HV.mv rfl) ?_
                  refine AL.val rfl (.inl rfl) (HV.add rfl rfl (by omega)) ?_
                  refine AL.val rfl (.inl rfl) (HV.as rfl) ?_
                  refine AL.nil ?_
                  refine nrm_and ?_
                  exact ⟨(i + 1, v729, (k ++ ([(z638 ++ (([a] : List Int) : List Int))] : List (List Int)))), ⟨X735, X736, X737, X738, by omega, by have hj2 : j = (m.getD i []).length := (by omega); rw [enrN_succ, hk]; exact congrArg (fun z => enrN p l m x i ++ [z]) (show enrE p l m x i = z638 ++ [a] by unfold enrE; rw [ha, hj2, List.take_length, (gd hz640 rfl : m.getD i [] = z638)]).symm, by simp [hk2], ho734, trivial⟩, by first | omega | (dsimp only; omega), ⟨rfl, rfl, rfl, rfl, rfl, rfl, rfl, rfl, rfl, trivial⟩⟩
              · -- else
                refine AW.exit ?_
                refine ex_and (ex_and (ex_blk ?_))
                refine nrm_and ?_
                refine AW.rs ?_
                refine AL.val rfl (.inl rfl) (HV.mv rfl) ?_
                refine AL.val rfl (.inl rfl) (HV.as rfl) ?_
                refine AL.val rfl (.inl rfl) (HV.as rfl) ?_
                refine AL.nx ?_
                refine AW.ret ?_
                refine post_two rfl rfl rfl ?_ (.inr rfl)
                have hq_ := en0 hv hgd hn0; exact ⟨⟨_, _, by rw [hq_.1], hq_.2.symm, by have e : i = l.length := (by omega); have q := hoL.okk (fun b hb _ => Nat.le_trans o568 hb); rw [hk, e] at q; exact q⟩, X583⟩
      · -- false
        have c496_ : decide ((i : Int) < (m.length : Int)) = false := decide_eq_false c496
        rw [c496_]
        refine AL.off rfl rfl (by decide) rfl ?_
        refine AL.val rfl (.inl rfl) (HV.pickF rfl rfl) ?_
        refine AL.nx ?_
        refine AW.cond rfl (fun h => by cases h) (fun _ => ?_)
        refine AW.exit ?_
        refine ex_and (ex_and (ex_blk ?_))
        refine nrm_and ?_
        refine AW.seq ?_
        refine AW.rs ?_
        refine AL.val rfl (.inl rfl) (HV.mv rfl) ?_
        refine AL.val rfl (.inl rfl) (HV.not rfl) ?_
        refine AL.nx ?_
        refine AW.cond rfl (fun c743 => ?_) (fun c743 => ?_)
        · -- then
          refine AW.rs ?_
          have X744 := Ext.refl H493
          have o745 := X494.bd
          have o746 := X495.bd
          have o747 := X744.bd
          refine AL.w rfl (.inl rfl) (WV.bsK (K := (kO 2 kI)) (l := ([] : List (List Int))) (css := []) sl36 rfl rfl (by first | rfl | (simp [Instr.fill, Value.cells, kI, kB, kU, kS, Kd.sc]; done) | (simp [Instr.fill, Value.cells, kI, kB, kU, kS, Kd.sc, rng1, rng2, rng3, rng4, kP])) rfl segs_nil) ?_
          rintro v748 H749 ⟨hx750, ho751⟩
          have X752 := Ext.trans X494 hx750
          have X753 := Ext.trans X495 hx750
          have X754 := Ext.trans X744 hx750
          have ho755 := ho751.deep0
          refine AL.val rfl (.inl rfl) (HV.as rfl) ?_
          refine AL.val rfl (.inl rfl) (HV.as rfl) ?_
          refine AL.nx ?_
          refine AW.ret ?_
          refine ret_and ?_
          refine post_two rfl rfl rfl ?_ (.inr rfl)
          have hv : vS p l := (by assumption); have hq_ := en2 (L := m) (at_ := x) hv (fun h => hbad (by simpa using c743) h); exact ⟨⟨_, [], by rw [hq_.1], hq_.2.symm, ho755.okk (fun b hb _ => Nat.le_trans o745 hb)⟩, X752⟩
        · -- else
          refine AW.skip ?_
          refine nrm_and ?_
          refine AW.seq ?_
          refine AW.rs ?_
          refine AL.val rfl (.inl rfl) (HV.mv rfl) ?_
          refine AL.val rfl (.inl rfl) (HV.eqi rfl rfl) ?_
          refine AL.nx ?_
          refine AW.ifd rfl (fun c757 => ?_) (fun c757 => ?_)
          · -- then
            refine AW.rs ?_
            have X758 := Ext.refl H493
            have o759 := X494.bd
            have o760 := X495.bd
            have o761 := X758.bd
            refine AL.w rfl (.inl rfl) (WV.bsK (K := (kO 2 kI)) (l := ([] : List (List Int))) (css := []) sl36 rfl rfl (by first | rfl | (simp [Instr.fill, Value.cells, kI, kB, kU, kS, Kd.sc]; done) | (simp [Instr.fill, Value.cells, kI, kB, kU, kS, Kd.sc, rng1, rng2, rng3, rng4, kP])) rfl segs_nil) ?_
            rintro v762 H763 ⟨hx764, ho765⟩
            have X766 := Ext.trans X494 hx764
            have X767 := Ext.trans X495 hx764
            have X768 := Ext.trans X758 hx764
            have ho769 := ho765.deep0
            refine AL.val rfl (.inl rfl) (HV.as rfl) ?_
            refine AL.val rfl (.inl rfl) (HV.as rfl) ?_
            refine AL.nx ?_
            refine AW.ret ?_
            refine ret_and ?_
            refine post_two rfl rfl rfl ?_ (.inr rfl)
            have hv : vS p l := (by assumption); have hgd : gdE p l m x := (by have hfd1 : fd = true := (by simpa using (by assumption : (!fd) = false)); first | exact ⟨(hfd hfd1).1, fun j hj => (hfd hfd1).2 j (by omega)⟩ | exact absurd (hfd1.symm.trans (by assumption : fd = false)) (by decide)); have hq_ := en4 hv hgd c757; exact ⟨⟨_, [], by rw [hq_.1], hq_.2.symm, ho769.okk (fun b hb _ => Nat.le_trans o759 hb)⟩, X766⟩
          · -- else
            refine AW.skip ?_
            refine nrm_and ?_
            refine AW.rs ?_
            have hv : vS p l := (by assumption)
            have hgd : gdE p l m x := (by have hfd1 : fd = true := (by simpa using (by assumption : (!fd) = false)); first | exact ⟨(hfd hfd1).1, fun j hj => (hfd hfd1).2 j (by omega)⟩ | exact absurd (hfd1.symm.trans (by assumption : fd = false)) (by decide))
            have hn0 : (l.length : Int) ≠ 0 := (by assumption)
            have hp := hv.1.1
            have hq := isPr_of hv.1
            have hpl := hv.2.2
            have hpl2 := hpl.1
            rw [List.length_map] at hpl2
            have hx_ := hgd.1.1
            have hlm := hgd.1.2
            have hwl : (wts p (l.map Prod.fst) x (l.map Prod.fst).length).length = l.length := by rw [wts_len, List.length_map]
            refine AL.val rfl (.inl rfl) (HV.mv rfl) ?_
            refine AL.val rfl (.inl rfl) (HV.mv rfl) ?_
            refine AL.w rfl (.inl rfl) (WV.call fn70 rfl (places_ok (hr.ext X494) hl)) ?_
            rintro v771 H772 ⟨hx773, ho774⟩
            have X776 := Ext.trans X494 hx773
            have X777 := Ext.trans X495 hx773
            have X778 := Ext.refl H772
            have hr775 : RdK kI W H772 _ v771 (l.map Prod.fst) := ho774.rd
            refine AL.val rfl (.inl rfl) (HV.mv rfl) ?_
            refine AL.w rfl (.inl rfl) (WV.call fn87 rfl (l05Wts_ok p x hr775 hq hx_ hpl.2 (by have := hpl.1; omega))) ?_
            rintro v779 H780 ⟨hx781, ho782⟩
            have X784 := Ext.trans X776 hx781
            have X785 := Ext.trans X777 hx781
            have X786 := Ext.trans X778 hx781
            have X787 := Ext.refl H780
            have hr783 : RdK kI W H780 _ v779 (wts p (l.map Prod.fst) x (l.map Prod.fst).length) := ho782.rd
            refine AL.val rfl (.inl rfl) (HV.as rfl) ?_
            refine AL.nx ?_
            refine AW.rs ?_
            have o788 := X784.bd
            have o789 := X785.bd
            have o790 := X786.bd
            have o791 := X787.bd
            refine AL.w rfl (.inl rfl) (WV.bsK (K := (kO 2 kI)) (l := ([] : List (List Int))) (css := []) sl36 rfl rfl (by first | rfl | (simp [Instr.fill, Value.cells, kI, kB, kU, kS, Kd.sc]; done) | (simp [Instr.fill, Value.cells, kI, kB, kU, kS, Kd.sc, rng1, rng2, rng3, rng4, kP])) rfl segs_nil) ?_
            rintro v792 H793 ⟨hx794, ho795⟩
            have X796 := Ext.trans X784 hx794
            have X797 := Ext.trans X785 hx794
            have X798 := Ext.trans X786 hx794
            have X799 := Ext.trans X787 hx794
            have ho800 := ho795.deep0
            refine AL.val rfl (.inl rfl) (HV.as rfl) ?_
            refine AL.nx ?_
            refine AW.seq ?_
            refine AW.rs ?_
            refine AL.val rfl (.inl rfl) (HV.as rfl) ?_
            refine AL.nx ?_
            refine AW.block ?_
            refine AW.loop (σ := Nat × Value × List (List Int)) (fun ⟨i, vv, k⟩ => [(0, .int .i64 p), (1, v), (3, vm), (8, (.slice none 0 0)), (9, .int .i64 0), (10, .int .i64 (l.length : Int)), (13, v779), (14, vv), (15, .int .i64 (i : Int))]) (fun ⟨i, vv, k⟩ H' => Ext H H' ∧ Ext H18 H' ∧ Ext H772 H' ∧ Ext H780 H' ∧ i ≤ l.length ∧ k = enrN p l m x i ∧ k.length = i ∧ OwnD (kO 2 kI) 24 W H' (fun b => H780.bd ≤ b) vv k ∧ True) (fun ⟨i, vv, k⟩ => l.length - i) (0, v792, (([] : List (List Int)) : List (List Int))) ⟨X796, X797, X798, X799, Nat.zero_le _, rfl, rfl, ho800, trivial⟩ ⟨rfl, rfl, rfl, rfl, rfl, rfl, rfl, rfl, rfl, trivial⟩ ?_
            rintro ⟨i, vv, k⟩ H802 ⟨X803, X804, X805, X806, hi, hk, hk2, hoL, _⟩
            refine AW.seq ?_
            refine AW.rs ?_
            refine AL.val rfl (.inl rfl) (HV.mv rfl) ?_
            refine AL.val rfl (.inl rfl) (HV.mv rfl) ?_
            refine AL.val rfl (.inl rfl) (HV.lti rfl rfl) ?_
            refine AL.nx ?_
            refine AW.ifd rfl (fun c807 => ?_) (fun c807 => ?_)
            · -- then
              refine AW.skip ?_
              refine nrm_and ?_
              refine AW.seq ?_
              refine AW.block ?_
              refine AW.seq ?_
              refine AW.draw' [0, 0, 3, 7, 0, 0, 48, 112, 240, 511, 0, 2047, 4095] mixed (by rfl) ?_
              refine Dr.read 0 _ 77 _ rfl rfl rfl rfl rfl (RV.of (by intro _ _ h; cases h) (.inl rfl) (fun _ xd => HV.mv rfl)) ?_
              refine Dr.read 1 _ 78 _ rfl rfl rfl rfl rfl (RV.of (by intro _ _ h; cases h) (.inl rfl) (fun _ xd => HV.mv rfl)) ?_
              obtain ⟨p808, z809, cs810, hz811, hK812, hC813, hP814⟩ := RdK.ix (q := (i : Int)) hr783 sl24 (by omega) (by omega)
              obtain rfl : cs810 = [.int .i64 z809] := hK812
              refine Dr.read 2 _ 79 _ rfl rfl rfl rfl rfl (RV.of (by intro _ _ h; cases h) (.inl rfl) (fun _ xd => hP814 rfl rfl)) ?_
              refine Dr.read 3 _ 80 _ rfl rfl rfl rfl rfl (RV.of (by intro _ _ h; cases h) (.inl rfl) (fun _ xd => HV.ld rfl va2 (rdc_ext xd (cells_first (hC813.ext X806) rfl)))) ?_
              refine Dr.read 4 _ 81 _ rfl rfl rfl rfl rfl (RV.of (by intro _ _ h; cases h) (.inl rfl) (fun _ xd => HV.mv rfl)) ?_
              refine Dr.read 5 _ 82 _ rfl rfl rfl rfl rfl (RV.of (by intro _ _ h; cases h) (.inl rfl) (fun _ xd => HV.mv rfl)) ?_
              obtain ⟨p815, z816, cs817, hz818, hK819, hC820, hP821⟩ := RdK.ix (q := (i : Int)) hr sl27 (by omega) (by omega)
              obtain ⟨cs822, cs823, rfl, hK824, hK825⟩ := hK819
              obtain rfl : cs822 = [.int .i64 z816.1] := hK824
              obtain rfl : cs823 = [.int .i64 z816.2] := hK825
              refine Dr.read 6 _ 83 _ rfl rfl rfl rfl rfl (RV.of (by intro _ _ h; cases h) (.inl rfl) (fun _ xd => hP821 rfl rfl)) ?_
              refine Dr.read 7 _ 84 _ rfl rfl rfl rfl rfl (RV.of (by intro _ _ h; cases h) (.inl rfl) (fun _ xd => HV.fa fl68_1 rfl)) ?_
              refine Dr.read 8 _ 85 _ rfl rfl rfl rfl rfl (RV.of (by intro _ _ h; cases h) (.inl rfl) (fun _ xd => HV.ld rfl va2 (rdc_ext xd (cells_at (hC820.ext X803) rfl)))) ?_
              refine Dr.read 9 _ 86 _ rfl rfl rfl rfl rfl (RV.of (by intro _ _ h; cases h) (.inl rfl) (fun _ xd => HV.mul rfl rfl (by have q1 := wts_at (show 2 ≤ p by omega) hz811; have q2 : 0 ≤ z816.2 ∧ z816.2 ≤ p - 1 := (vS_bnd hv _ (List.mem_of_getElem? hz818)).2; have q3 := mul31 (a := z809) (b := z816.2) (by omega) (by omega) (by omega) (by omega); omega))) ?_
              refine Dr.read 10 _ 87 _ rfl rfl rfl rfl rfl (RV.of (by intro _ _ h; cases h) (.inl rfl) (fun _ xd => HV.mv rfl)) ?_
              refine Dr.read 11 _ 88 _ rfl rfl rfl rfl rfl (RV.of (by intro _ _ h; cases h) (.inl rfl) (fun _ xd => HV.rem rfl rfl (by have q1 := wts_at (show 2 ≤ p by omega) hz811; have q2 : 0 ≤ z816.2 ∧ z816.2 ≤ p - 1 := (vS_bnd hv _ (List.mem_of_getElem? hz818)).2; have q3 := mul31 (a := z809) (b := z816.2) (by omega) (by omega) (by omega) (by omega); omega))) ?_
              refine Dr.read 12 _ 16 _ rfl rfl rfl rfl rfl (RV.of (by intro _ _ h; cases h) (.inl rfl) (fun _ xd => HV.as rfl)) ?_
              refine Dr.fin rfl ?_
              refine nrm_and ?_
              refine AW.seq ?_
              refine AW.rs ?_
              refine AL.val rfl (.inl rfl) (HV.as rfl) ?_
              refine AL.nx ?_
              refine AW.block ?_
              have hml := (hgd.2 i (by omega)).1
              have hme := (hgd.2 i (by omega)).2
              have ha0 := emod_bd (show 0 < p by omega) ((wts p (l.map Prod.fst) x (l.map Prod.fst).length).getD i 0 * (l.getD i (0, 0)).2)
              refine AW.loop (σ := Nat × Int) (fun ⟨j, a⟩ => [(0, .int .i64 p), (1, v), (3, vm), (8, (.slice none 0 0)), (9, .int .i64 0), (10, .int .i64 (l.length : Int)), (13, v779), (14, vv), (15, .int .i64 (i : Int)), (72, .int .i64 (i : Int)), (73, .int .i64 (l.length : Int)), (74, .bool (decide ((i : Int) < (l.length : Int)))), (77, v779), (78, .int .i64 (i : Int)), (79, .pointer (some p808)), (80, .int .i64 z809), (81, v), (82, .int .i64 (i : Int)), (83, .pointer (some p815)), (85, .int .i64 z816.2), (86, .int .i64 (z809 * z816.2)), (87, .int .i64 p), (88, .int .i64 ((z809 * z816.2) % p)), (16, .int .i64 a), (17, .int .i64 (j : Int))]) (fun ⟨j, a⟩ H' => Ext H H' ∧ Ext H18 H' ∧ Ext H772 H' ∧ Ext H780 H' ∧ OwnD (kO 2 kI) 24 W H' (fun b => H780.bd ≤ b) vv k ∧ j ≤ (m.getD i []).length ∧ a = lastE p ((wts p (l.map Prod.fst) x (l.map Prod.fst).length).getD i 0 * (l.getD i (0, 0)).2 % p) ((m.getD i []).take j) ∧ True) (fun ⟨j, a⟩ => (m.getD i []).length - j) (0, (z809 * z816.2) % p) ⟨X803, X804, X805, X806, hoL, Nat.zero_le _, by have e1 : (wts p (l.map Prod.fst) x (l.map Prod.fst).length).getD i 0 = z809 := gd hz811 rfl; have e2 : (l.getD i (0, 0)).2 = z816.2 := congrArg Prod.snd (gd hz818 rfl : l.getD i (0, 0) = z816); rw [e1, e2]; rfl, trivial⟩ ⟨rfl, rfl, rfl, rfl, rfl, rfl, rfl, rfl, rfl, rfl, rfl, rfl, rfl, rfl, rfl, rfl, rfl, rfl, rfl, rfl, rfl, rfl, rfl, rfl, rfl, trivial⟩ ?_
              rintro ⟨j, a⟩ H826 ⟨X827, X828, X829, X830, ho831, hj, ha, _⟩
              have hain := lastE_in (show 0 < p by omega) ha0 ((m.getD i []).take j)
              rw [← ha] at hain
              refine AW.seq ?_
              refine AW.rs ?_
              refine AL.val rfl (.inl rfl) (HV.mv rfl) ?_
              refine AL.val rfl (.inl rfl) (HV.mv rfl) ?_
              refine AL.val rfl (.inl rfl) (HV.sub rfl rfl (by omega)) ?_
              refine AL.val rfl (.inl rfl) (HV.lti rfl rfl) ?_
              refine AL.nx ?_
              refine AW.ifd rfl (fun c832 => ?_) (fun c832 => ?_)
              · -- then
                refine AW.skip ?_
                refine nrm_and ?_
                refine AW.seq ?_
                refine AW.block ?_
                refine AW.reg ?_
                refine AL.val rfl (.inl rfl) (HV.mv rfl) ?_
                refine AL.val rfl (.inl rfl) (HV.mv rfl) ?_
                refine AL.val rfl (.inl rfl) (HV.mv rfl) ?_
                obtain ⟨p833, z834, cs835, hz836, hK837, hC838, hP839⟩ := RdK.ix (q := (i : Int)) hr2 sl36 (by omega) (by omega)
                obtain ⟨v840, rfl, hr841⟩ := hK837
                have hm842 := hr841.max
                refine AL.val rfl (.inl rfl) (hP839 rfl rfl) ?_
                refine AL.val rfl (.inl rfl) (HV.ld rfl va24 (cells_first (hC838.ext X827) rfl)) ?_
                refine AL.val rfl (.inl rfl) (HV.mv rfl) ?_
                obtain ⟨p843, z844, cs845, hz846, hK847, hC848, hP849⟩ := RdK.ix (q := (j : Int)) hr841 sl24 (by omega) (by have e3_ : m.getD i [] = z834 := gd hz836 rfl; rw [← e3_]; omega)
                obtain rfl : cs845 = [.int .i64 z844] := hK847
                refine AL.val rfl (.inl rfl) (hP849 rfl rfl) ?_
                refine AL.val rfl (.inl rfl) (HV.ld rfl va2 (cells_first (hC848.ext X827) rfl)) ?_
                refine AL.val rfl (.inl rfl) (HV.sub rfl rfl (by have e3_ : m.getD i [] = z834 := gd hz836 rfl; have q1 := elem_at (e3_ ▸ hme) hz846; omega)) ?_
                refine AL.val rfl (.inl rfl) (HV.mv rfl) ?_
                refine AL.w rfl (.inl rfl) (WV.call fn88 rfl (rest_ok (W := W) (a - z844) p (by assumption : vS p l).1.1)) ?_
                rintro _ H850 ⟨rfl, hx851⟩
                have X852 := Ext.trans X827 hx851
                have X853 := Ext.trans X828 hx851
                have X854 := Ext.trans X829 hx851
                have X855 := Ext.trans X830 hx851
                have ho856 := ho831.ext hx851
                refine AL.val rfl (.inl rfl) (HV.as rfl) ?_
                refine AL.nil ?_
                refine nrm_blk (nrm_and ?_)
                refine AW.reg ?_
                refine AL.val rfl (.inl rfl) (HV.mv rfl) ?_
                refine AL.val rfl (.inl rfl) (HV.add rfl rfl (by omega)) ?_
                refine AL.val rfl (.inl rfl) (HV.as rfl) ?_
                refine AL.nil ?_
                refine nrm_and ?_
                have e3_ : m.getD i [] = z834 := gd hz836 rfl
                exact ⟨(j + 1, (a - z844) % p), ⟨X852, X853, X854, X855, ho856, by first | omega | (rw [e3_]; omega), by rw [e3_] at ha ⊢; rw [lastE_snoc hz846, ← ha], trivial⟩, by first | omega | (dsimp only; omega), ⟨rfl, rfl, rfl, rfl, rfl, rfl, rfl, rfl, rfl, rfl, rfl, rfl, rfl, rfl, rfl, rfl, rfl, rfl, rfl, rfl, rfl, rfl, rfl, rfl, rfl, trivial⟩⟩
              · -- else
                refine AW.exit ?_
                refine ex_and (ex_and (ex_blk ?_))
                refine nrm_and ?_
                refine AW.reg ?_
                refine AL.val rfl (.inl rfl) (HV.mv rfl) ?_
                refine AL.val rfl (.inl rfl) (HV.mv rfl) ?_
                refine AL.val rfl (.inl rfl) (HV.mv rfl) ?_
                obtain ⟨p857, z858, cs859, hz860, hK861, hC862, hP863⟩ := RdK.ix (q := (i : Int)) hr2 sl36 (by omega) (by omega)
                obtain ⟨v864, rfl, hr865⟩ := hK861
                have hm866 := hr865.max
                refine AL.val rfl (.inl rfl) (hP863 rfl rfl) ?_
                refine AL.val rfl (.inl rfl) (HV.ld rfl va24 (cells_first (hC862.ext X827) rfl)) ?_
                have hzl_ : z858.length ≤ 10 := by have e : m.getD i [] = z858 := gd hz860 rfl; rw [← e]; omega
                have X867 := Ext.refl H826
                have o868 := X827.bd
                have o869 := X828.bd
                have o870 := X829.bd
                have o871 := X830.bd
                have o872 := X867.bd
                have a873 := ho831.ltb
                have ho874 := ho831.okk (ok' := fun b => H780.bd ≤ b ∧ b < H826.bd) (fun b hb hlt => ⟨hb, hlt⟩)
                refine AL.w rfl (.inl rfl) (WV.call fn89 rfl (l00Own_ok (hr865.ext X827) (by omega))) ?_
                rintro v875 H876 ⟨hx877, ho878⟩
                have X879 := Ext.trans X827 hx877
                have X880 := Ext.trans X828 hx877
                have X881 := Ext.trans X829 hx877
                have X882 := Ext.trans X830 hx877
                have X883 := Ext.trans X867 hx877
                have ho884 := ho874.ext hx877
                refine AL.val rfl (.inl rfl) (HV.mv rfl) ?_
                have X886 := Ext.refl H876
                have o887 := X879.bd
                have o888 := X880.bd
                have o889 := X881.bd
                have o890 := X882.bd
                have o891 := X883.bd
                have o892 := X886.bd
                have a893 := ho884.ltb
                have a894 := ho878.ltb
                refine AL.w rfl (.inl rfl) (WV.bsK (K := kI) (l := ([a] : List Int)) (css := [[.int .i64 a]]) sl24 rfl rfl (by first | rfl | (simp [Instr.fill, Value.cells, kI, kB, kU, kS, Kd.sc]; done) | (simp [Instr.fill, Value.cells, kI, kB, kU, kS, Kd.sc, rng1, rng2, rng3, rng4, kP])) rfl (segs_cons rfl segs_nil)) ?_
                rintro v895 H896 ⟨hx897, ho898⟩
                have X899 := Ext.trans X879 hx897
                have X900 := Ext.trans X880 hx897
                have X901 := Ext.trans X881 hx897
                have X902 := Ext.trans X882 hx897
                have X903 := Ext.trans X883 hx897
                have X904 := Ext.trans X886 hx897
                have ho905 := ho884.ext hx897
                have ho906 := ho878.ext hx897
                have X908 := Ext.refl H896
                refine AL.w rfl (.inl rfl) (WV.apk sl24 rfl rfl ho906 ho898.rd (by simp; omega) (by simp; omega) (fun b hb _ e => Nat.lt_irrefl _ (Nat.lt_of_lt_of_le (a894 b e) hb))) ?_
                rintro v909 H910 ⟨hx911, ho912, hb913⟩
                have ho914 := ho912.narrow (ok' := fun b => H826.bd ≤ b) kI_flat (fun b q => (hb913 b q).elim (fun e => (ho906.blk b e).1) (fun e => Nat.le_trans X903.bd e))
                have X915 := Ext.thru X899 hx911 (fun b hb => Nat.le_trans o868 (ho906.blk b hb).1)
                have X916 := Ext.thru X900 hx911 (fun b hb => Nat.le_trans o869 (ho906.blk b hb).1)
                have X917 := Ext.thru X901 hx911 (fun b hb => Nat.le_trans o870 (ho906.blk b hb).1)
                have X918 := Ext.thru X902 hx911 (fun b hb => Nat.le_trans o871 (ho906.blk b hb).1)
                have X919 := Ext.thru X903 hx911 (fun b hb => Nat.le_trans o872 (ho906.blk b hb).1)
                have ho922 := ho905.but hx911 (fun b hb _ e => by have h1 : H780.bd ≤ b ∧ b < H826.bd := hb; have h2 : H826.bd ≤ b := (ho906.blk b e).1; omega) (fun b hb => (ho906.blk b hb).2.2)
                have X924 := Ext.refl H910
                have o925 := X915.bd
                have o926 := X916.bd
                have o927 := X917.bd
                have o928 := X918.bd
                have o929 := X919.bd
                have o930 := X924.bd
                have a931 := ho922.ltb
                have a932 := ho914.ltb
                have hc937 : v909.cells = #[v909] := by obtain ⟨A, c, e⟩ := ho914.isSl; rw [e]; rfl
                refine AL.w rfl (.inl rfl) (WV.bsO (okx := fun b => H826.bd ≤ b) (K := (kO 2 kI)) (l := ([(z858 ++ (([a] : List Int) : List Int))] : List (List Int))) (css := [[v909]]) sl36 rfl rfl (by simp [Instr.fill, hc937, kO, rng1]) rfl (segs_cons ⟨_, rfl, ho914⟩ segs_nil)) ?_
                rintro v933 H934 ⟨hx935, ho936⟩
                have X939 := Ext.trans X915 hx935
                have X940 := Ext.trans X916 hx935
                have X941 := Ext.trans X917 hx935
                have X942 := Ext.trans X918 hx935
                have X943 := Ext.trans X919 hx935
                have X944 := Ext.trans X924 hx935
                have ho945 := ho922.ext hx935
                have ho946 := ho914.ext hx935
                have ho938 := ho936.okk (ok' := fun b => H826.bd ≤ b) (fun b hb _ => hb.elim id (fun e => Nat.le_trans X919.bd e))
                have X948 := Ext.refl H934
                refine AL.w rfl (.inl rfl) (WV.apD (ok := fun b => H780.bd ≤ b) (B := H826.bd) sl36 rfl rfl ho945 ho938.rd X943.bd (by rw [hk2]; omega) (by rw [hk2]; omega)) ?_
                rintro v949 H950 ⟨hx951, ho952, hb953⟩
                have ho954 := ho952.okk (ok' := fun b => H780.bd ≤ b) (fun b hb _ => hb.elim id (fun e => Nat.le_trans o871 e))
                have X955 := Ext.thru X939 hx951 (fun b hb => Nat.le_trans o788 (ho945.blk b hb).1.1)
                have X956 := Ext.thru X940 hx951 (fun b hb => Nat.le_trans o789 (ho945.blk b hb).1.1)
                have X957 := Ext.thru X941 hx951 (fun b hb => Nat.le_trans o790 (ho945.blk b hb).1.1)
                have X958 := Ext.thru X942 hx951 (fun b hb => Nat.le_trans o791 (ho945.blk b hb).1.1)
                refine AL.val rfl (.inl rfl) (HV.as rfl) ?_
                refine AL.nil ?_
                refine nrm_blk (nrm_and ?_)
                refine AW.reg ?_
                refine AL.val rfl (.inl rfl) (HV.mv rfl) ?_
                refine AL.val rfl (.inl rfl) (HV.add rfl rfl (by omega)) ?_
                refine AL.val rfl (.inl rfl) (HV.as rfl) ?_
                refine AL.nil ?_
                refine nrm_and ?_
                exact ⟨(i + 1, v949, (k ++ ([(z858 ++ (([a] : List Int) : List Int))] : List (List Int)))), ⟨X955, X956, X957, X958, by omega, by have hj2 : j = (m.getD i []).length := (by omega); rw [enrN_succ, hk]; exact congrArg (fun z => enrN p l m x i ++ [z]) (show enrE p l m x i = z858 ++ [a] by unfold enrE; rw [ha, hj2, List.take_length, (gd hz860 rfl : m.getD i [] = z858)]).symm, by simp [hk2], ho954, trivial⟩, by first | omega | (dsimp only; omega), ⟨rfl, rfl, rfl, rfl, rfl, rfl, rfl, rfl, rfl, trivial⟩⟩
            · -- else
              refine AW.exit ?_
              refine ex_and (ex_and (ex_blk ?_))
              refine nrm_and ?_
              refine AW.rs ?_
              refine AL.val rfl (.inl rfl) (HV.mv rfl) ?_
              refine AL.val rfl (.inl rfl) (HV.as rfl) ?_
              refine AL.val rfl (.inl rfl) (HV.as rfl) ?_
              refine AL.nx ?_
              refine AW.ret ?_
              refine post_two rfl rfl rfl ?_ (.inr rfl)
              have hq_ := en0 hv hgd hn0; exact ⟨⟨_, _, by rw [hq_.1], hq_.2.symm, by have e : i = l.length := (by omega); have q := hoL.okk (fun b hb _ => Nat.le_trans o788 hb); rw [hk, e] at q; exact q⟩, X803⟩

set_option maxRecDepth 100000 in
theorem implEn_ok {v vm : Value} {l : List (Int × Int)} {m : List (List Int)} {ok ok2 : Nat → Prop} (p : Int) (hr : RdK (kP kI kI) W H ok v l) (x : Int) (hr2 : RdK (kR kI) W H ok2 vm m) (hl : l.length ≤ 1048576) : ACalls Try.prog W 36 #[.int .i64 p, v, .int .i64 x, vm] H (fun r H' => (∃ v k, r = .tuple #[v, .int .i64 (enCode p l m x)] ∧ k = enRow p l m x ∧ OwnD (kO 2 kI) 24 W H' (fun b => H.bd ≤ b) v k) ∧ Ext H H') := by
  refine ACalls.of (args := [.int .i64 p, v, .int .i64 x, vm]) Try.func36 rfl rfl ?_
  have X0 := Ext.refl H
  have hm1 := hr.max
  have hm2 := hr2.max
  refine AW.rs ?_
  refine AL.w rfl (.inl rfl) (WV.bx rfl rfl) ?_
  rintro _ H4 ⟨b3, rfl, hx5, hn6, hb7⟩
  have o8 := Nat.le_trans X0.bd hn6
  have X9 := Ext.trans X0 hx5
  have X10 := Ext.refl H4
  refine AL.val rfl (.inl rfl) (HV.as rfl) ?_
  refine AL.val rfl (.inl rfl) (HV.as rfl) ?_
  refine AL.nx ?_
  refine AW.rs ?_
  refine AL.val rfl (.inl rfl) (HV.mv rfl) ?_
  refine AL.val rfl (.inl rfl) (HV.len Try.underlying27 rfl hr.isSl) ?_
  refine AL.w rfl (.inl rfl) (WV.al ze3 rfl) ?_
  rintro _ H12 ⟨b11, rfl, hx13, hn14, hb15⟩
  have o16 := Nat.le_trans X9.bd hn14
  have o17 := Nat.le_trans X10.bd hn14
  have ne18 : b3 ≠ b11 := by have := hb7.lt; omega
  have X19 := Ext.trans X9 hx13
  have X20 := Ext.trans X10 hx13
  have hb21 := hb7.ext hx13
  have X22 := Ext.refl H12
  refine AL.w0 (.inl rfl) (WV.st rfl rfl va3 rfl hb15 (Nat.le_of_ble_eq_true rfl) (one_cons rfl one_nil)) ?_
  rintro _ H23 ⟨hx24, hb25⟩
  have X26 := Ext.thru X19 hx24 (fun z_ hz_ => by rw [hz_]; exact o16)
  have X27 := Ext.thru X20 hx24 (fun z_ hz_ => by rw [hz_]; exact o17)
  have hb29 := hb21.but hx24 ne18
  have hb30 : At W H23 b11 ⟨3, [.int .i64 (l.length : Int)], 1⟩ := hb25
  refine AL.nx ?_
  refine AW.seq ?_
  refine AW.block ?_
  refine AW.rs ?_
  refine AL.val rfl (.inl rfl) (HV.ld rfl va2 (at_cell hb29 rfl)) ?_
  refine AL.val rfl (.inl rfl) (HV.mv rfl) ?_
  refine AL.w rfl (.inl rfl) (WV.call fn62 rfl (implVS_ok (hr.ext X26) p hl)) ?_
  rintro _ H31 ⟨rfl, hx32⟩
  have X33 := Ext.trans X26 hx32
  have X34 := Ext.trans X27 hx32
  have hb35 := hb29.ext hx32
  have hb36 := hb30.ext hx32
  refine AL.val rfl (.inl rfl) (HV.not rfl) ?_
  refine AL.val rfl (.inl rfl) (HV.as rfl) ?_
  refine AL.nx ?_
  refine AW.ifn rfl (fun c37 => ?_) (fun c37 => ?_)
  · -- then
    refine AW.rs ?_
    refine AL.val rfl (.inl rfl) (HV.as rfl) ?_
    refine AL.val rfl (.inl rfl) (HV.as rfl) ?_
    refine AL.nx ?_
    refine AW.ret ?_
    refine ret_blk (ret_and ?_)
    refine post_two rfl rfl rfl ?_ (.inr rfl)
    have hq_ := en1 (p := p) (l := l) (L := m) (at_ := x) c37; exact ⟨⟨_, [], by rw [hq_.1], hq_.2.symm, OwnD.nil _⟩, X33⟩
  · -- else
    refine AW.rs ?_
    refine AL.val rfl (.inl rfl) (HV.ld rfl va2 (at_cell hb35 rfl)) ?_
    refine AL.val rfl (.inl rfl) (HV.mv rfl) ?_
    have X38 := Ext.refl H31
    have y39 := hb35.lt
    have y40 := hb36.lt
    have o41 := X33.bd
    have o42 := X34.bd
    have o43 := X38.bd
    refine AL.w rfl (.inl rfl) (WV.bsK (K := kI) (l := ([x] : List Int)) (css := [[.int .i64 x]]) sl24 rfl rfl (by first | rfl | (simp [Instr.fill, Value.cells, kI, kB, kU, kS, Kd.sc]; done) | (simp [Instr.fill, Value.cells, kI, kB, kU, kS, Kd.sc, rng1, rng2, rng3, rng4, kP])) rfl (segs_cons rfl segs_nil)) ?_
    rintro v44 H45 ⟨hx46, ho47⟩
    have X48 := Ext.trans X33 hx46
    have X49 := Ext.trans X34 hx46
    have X50 := Ext.trans X38 hx46
    have hb51 := hb35.ext hx46
    have hb52 := hb36.ext hx46
    refine AL.w rfl (.inl rfl) (WV.call fn90 rfl (areEl_ok p ho47.rd)) ?_
    rintro _ H54 ⟨rfl, hx55⟩
    have X56 := Ext.trans X48 hx55
    have X57 := Ext.trans X49 hx55
    have X58 := Ext.trans X50 hx55
    have ho59 := ho47.ext hx55
    have hb60 := hb51.ext hx55
    have hb61 := hb52.ext hx55
    refine AL.val rfl (.inl rfl) (HV.not rfl) ?_
    refine AL.val rfl (.inl rfl) (HV.mv rfl) ?_
    by_cases c62 : primeI p ∧ elems p (([x] : List Int) : List Int)
    · -- false
      have c62_ : (!decide (primeI p ∧ elems p (([x] : List Int) : List Int))) = false := by rw [decide_eq_true c62]; rfl
      rw [c62_]
      refine AL.val rfl (.inr ⟨_, _, _, rfl, rfl, rfl⟩) (HV.mv rfl) ?_
      refine AL.val rfl (.inr ⟨_, _, _, rfl, rfl, rfl⟩) (HV.len Try.underlying36 rfl hr2.isSl) ?_
      refine AL.val rfl (.inr ⟨_, _, _, rfl, rfl, rfl⟩) (HV.ld rfl va3 (at_cell hb61 rfl)) ?_
      refine AL.val rfl (.inr ⟨_, _, _, rfl, rfl, rfl⟩) (HV.nei rfl rfl) ?_
      refine AL.val rfl (.inl rfl) (HV.pickF rfl rfl) ?_
      refine AL.val rfl (.inl rfl) (HV.mv rfl) ?_
      by_cases c63 : (m.length : Int) ≠ (l.length : Int)
      · -- true
        have c63_ : decide ((m.length : Int) ≠ (l.length : Int)) = true := decide_eq_true c63
        rw [c63_]
        refine AL.off rfl rfl (by decide) rfl ?_
        refine AL.off rfl rfl (by decide) rfl ?_
        refine AL.off rfl rfl (by decide) rfl ?_
        refine AL.val rfl (.inl rfl) (HV.pickT rfl rfl) ?_
        refine AL.val rfl (.inl rfl) (HV.as rfl) ?_
        refine AL.nx ?_
        refine AW.cond rfl (fun _ => ?_) (fun h => by cases h)
        refine AW.rs ?_
        refine AL.val rfl (.inl rfl) (HV.as rfl) ?_
        refine AL.val rfl (.inl rfl) (HV.as rfl) ?_
        refine AL.nx ?_
        refine AW.ret ?_
        refine ret_blk (ret_and ?_)
        refine post_two rfl rfl rfl ?_ (.inr rfl)
        have hv : vS p l := (by assumption); have hq_ := en2 (L := m) (at_ := x) hv (fun h => by first | exact c63 ⟨hv.1, elems_one.2 h.1.1⟩ | (have q := h.1.2; omega) | exact c63 h.2); exact ⟨⟨_, [], by rw [hq_.1], hq_.2.symm, OwnD.nil _⟩, X56⟩
      · -- false
        have c63_ : decide ((m.length : Int) ≠ (l.length : Int)) = false := decide_eq_false c63
        rw [c63_]
        refine AL.val rfl (.inr ⟨_, _, _, rfl, rfl, rfl⟩) (HV.mv rfl) ?_
        refine AL.val rfl (.inr ⟨_, _, _, rfl, rfl, rfl⟩) (HV.fn rfl rfl) ?_
        refine AL.w rfl (.inr ⟨_, _, _, rfl, rfl, rfl⟩) (WV.call fn91 rfl (coEn_ok (hr2.ext X56) (by omega) hb61 hb60 (by assumption : vS p l).1)) ?_
        rintro _ H65 ⟨rfl, hx66⟩
        have X67 := Ext.trans X56 hx66
        have X68 := Ext.trans X57 hx66
        have X69 := Ext.trans X58 hx66
        have ho70 := ho59.ext hx66
        have hb71 := hb60.ext hx66
        have hb72 := hb61.ext hx66
        refine AL.val rfl (.inl rfl) (HV.pickF rfl rfl) ?_
        refine AL.val rfl (.inl rfl) (HV.as rfl) ?_
        refine AL.nx ?_
        refine AW.ifd rfl (fun c73 => ?_) (fun c73 => ?_)
        · -- then
          refine AW.rs ?_
          refine AL.val rfl (.inl rfl) (HV.as rfl) ?_
          refine AL.val rfl (.inl rfl) (HV.as rfl) ?_
          refine AL.nx ?_
          refine AW.ret ?_
          refine ret_blk (ret_and ?_)
          refine post_two rfl rfl rfl ?_ (.inr rfl)
          have hv : vS p l := (by assumption); have hq_ := en2 (L := m) (at_ := x) hv (fun h => by first | exact c73 ⟨hv.1, elems_one.2 h.1.1⟩ | (have q := h.1.2; omega) | exact c73 h.2); exact ⟨⟨_, [], by rw [hq_.1], hq_.2.symm, OwnD.nil _⟩, X67⟩
        · -- else
          refine AW.rs ?_
          refine AL.val rfl (.inl rfl) (HV.ld rfl va3 (at_cell hb72 rfl)) ?_
          refine AL.val rfl (.inl rfl) (HV.eqi rfl rfl) ?_
          refine AL.val rfl (.inl rfl) (HV.as rfl) ?_
          refine AL.nx ?_
          refine AW.ifd rfl (fun c74 => ?_) (fun c74 => ?_)
          · -- then
            refine AW.rs ?_
            refine AL.val rfl (.inl rfl) (HV.as rfl) ?_
            refine AL.val rfl (.inl rfl) (HV.as rfl) ?_
            refine AL.nx ?_
            refine AW.ret ?_
            refine ret_blk (ret_and ?_)
            refine post_two rfl rfl rfl ?_ (.inr rfl)
            have hv : vS p l := (by assumption); have hgd : gdE p l m x := (⟨⟨elems_one.1 (by assumption : primeI p ∧ elems p ([x] : List Int)).2, by omega⟩, Classical.not_not.1 (by assumption)⟩); have hq_ := en4 hv hgd c74; exact ⟨⟨_, [], by rw [hq_.1], hq_.2.symm, OwnD.nil _⟩, X67⟩
          · -- else
            refine AW.skip ?_
            refine nrm_blk (nrm_and ?_)
            refine AW.rs ?_
            have hv : vS p l := (by assumption)
            have hgd : gdE p l m x := (⟨⟨elems_one.1 (by assumption : primeI p ∧ elems p ([x] : List Int)).2, by omega⟩, Classical.not_not.1 (by assumption)⟩)
            have hn0 : (l.length : Int) ≠ 0 := (by assumption)
            have hp := hv.1.1
            have hq := isPr_of hv.1
            have hpl := hv.2.2
            have hpl2 := hpl.1
            rw [List.length_map] at hpl2
            have hx_ := hgd.1.1
            have hlm := hgd.1.2
            have hwl : (wts p (l.map Prod.fst) x (l.map Prod.fst).length).length = l.length := by rw [wts_len, List.length_map]
            refine AL.val rfl (.inl rfl) (HV.mv rfl) ?_
            refine AL.w rfl (.inl rfl) (WV.call fn93 rfl (ptsOf_ok (hr.ext X67) hl)) ?_
            rintro _ H77 ⟨⟨u75, v76, rfl, hr79, hr80⟩, hx78⟩
            have X81 := Ext.trans X67 hx78
            have X82 := Ext.trans X68 hx78
            have X83 := Ext.trans X69 hx78
            have hb84 := hb71.ext hx78
            have hb85 := hb72.ext hx78
            have X86 := Ext.refl H77
            refine AL.val rfl (.inl rfl) (HV.mv rfl) ?_
            refine AL.val rfl (.inl rfl) (HV.ex rfl rfl) ?_
            refine AL.val rfl (.inl rfl) (HV.ex rfl rfl) ?_
            refine AL.val rfl (.inl rfl) (HV.as rfl) ?_
            refine AL.val rfl (.inl rfl) (HV.as rfl) ?_
            refine AL.nx ?_
            refine AW.rs ?_
            have y87 := hb84.lt
            have y88 := hb85.lt
            have o89 := X81.bd
            have o90 := X82.bd
            have o91 := X83.bd
            have o92 := X86.bd
            refine AL.w rfl (.inl rfl) (WV.bsK (K := (kO 2 kI)) (l := ([] : List (List Int))) (css := []) sl36 rfl rfl (by first | rfl | (simp [Instr.fill, Value.cells, kI, kB, kU, kS, Kd.sc]; done) | (simp [Instr.fill, Value.cells, kI, kB, kU, kS, Kd.sc, rng1, rng2, rng3, rng4, kP])) rfl segs_nil) ?_
            rintro v93 H94 ⟨hx95, ho96⟩
            have X97 := Ext.trans X81 hx95
            have X98 := Ext.trans X82 hx95
            have X99 := Ext.trans X83 hx95
            have X100 := Ext.trans X86 hx95
            have hb101 := hb84.ext hx95
            have hb102 := hb85.ext hx95
            have ho103 := ho96.deep0
            refine AL.val rfl (.inl rfl) (HV.as rfl) ?_
            refine AL.nx ?_
            refine AW.seq ?_
            refine AW.rs ?_
            refine AL.val rfl (.inl rfl) (HV.ld rfl va2 (at_cell hb101 rfl)) ?_
            refine AL.val rfl (.inl rfl) (HV.mv rfl) ?_
            refine AL.val rfl (.inl rfl) (HV.mv rfl) ?_
            have X105 := Ext.refl H94
            have y106 := hb101.lt
            have y107 := hb102.lt
            have o108 := X97.bd
            have o109 := X98.bd
            have o110 := X99.bd
            have o111 := X100.bd
            have o112 := X105.bd
            have a113 := ho103.ltb
            have ho114 := ho103.okk (ok' := fun b => H77.bd ≤ b ∧ b < H94.bd) (fun b hb hlt => ⟨hb, hlt⟩)
            refine AL.w rfl (.inl rfl) (WV.call fn94 rfl (weights_ok p x (hr79.ext X100) hq hx_ hpl.2 (by have := hpl.1; omega))) ?_
            rintro v115 H116 ⟨hx117, ho118⟩
            have X119 := Ext.trans X97 hx117
            have X120 := Ext.trans X98 hx117
            have X121 := Ext.trans X99 hx117
            have X122 := Ext.trans X100 hx117
            have X123 := Ext.trans X105 hx117
            have ho124 := ho114.ext hx117
            have hb125 := hb101.ext hx117
            have hb126 := hb102.ext hx117
            refine AL.val rfl (.inl rfl) (HV.len Try.underlying24 rfl ho118.rd.isSl) ?_
            refine AL.val rfl (.inl rfl) (HV.mv rfl) ?_
            refine AL.nx ?_
            refine AW.block ?_
            have ho128 := ho118.narrow (ok' := fun b => H94.bd ≤ b ∧ some b = v115.ownBlock) kI_flat (fun b q => ⟨(ho118.blk b q).1, q⟩)
            have d129 : ∀ b, some b = v115.ownBlock → some b = v93.ownBlock → False := fun b h1 h2 => by have x1 := a113 b h2; have x2 : H94.bd ≤ b := (ho118.blk b h1).1; omega
            have ho130 := ho124.okk (ok' := fun b => H77.bd ≤ b) (fun b hb _ => hb.1)
            refine AW.loop (σ := Nat × Value × List (List Int)) (fun ⟨i, vv, k⟩ => [(3, vm), (4, .pointer (some ⟨b3, 0, none⟩)), (8, (.slice none 0 0)), (9, .int .i64 0), (12, v76), (55, v115), (56, .int .i64 ((wts p (l.map Prod.fst) x (l.map Prod.fst).length).length : Int)), (13, vv), (57, .int .i64 (i : Int))]) (fun ⟨i, vv, k⟩ H' => Ext H H' ∧ Ext H4 H' ∧ Ext H31 H' ∧ Ext H77 H' ∧ At W H' b3 ⟨2, [.int .i64 p], 1⟩ ∧ At W H' b11 ⟨3, [.int .i64 (l.length : Int)], 1⟩ ∧ i ≤ l.length ∧ k = enrN p l m x i ∧ k.length = i ∧ OwnD (kO 2 kI) 24 W H' (fun b => H77.bd ≤ b) vv k ∧ OwnK kI 2 W H' (fun b => H94.bd ≤ b ∧ some b = v115.ownBlock) v115 (wts p (l.map Prod.fst) x (l.map Prod.fst).length) ∧ (∀ b, some b = v115.ownBlock → some b = vv.ownBlock → False) ∧ True) (fun ⟨i, vv, k⟩ => l.length - i) (0, v93, (([] : List (List Int)) : List (List Int))) ⟨X119, X120, X121, X122, hb125, hb126, Nat.zero_le _, rfl, rfl, ho130, ho128, d129, trivial⟩ ⟨rfl, rfl, rfl, rfl, rfl, rfl, rfl, rfl, rfl, trivial⟩ ?_
            rintro ⟨i, vv, k⟩ H131 ⟨X132, X133, X134, X135, hb136, hb137, hi, hk, hk2, hoL, hoW, hdis, _⟩
            refine AW.rs ?_
            refine AL.val rfl (.inl rfl) (HV.lti rfl rfl) ?_
            refine AL.nx ?_
            refine AW.seq ?_
            refine AW.ifd rfl (fun c138 => ?_) (fun c138 => ?_)
            · -- then
              refine AW.skip ?_
              refine nrm_and ?_
              refine AW.seq ?_
              refine AW.block ?_
              refine AW.rs ?_
              refine AL.val rfl (.inl rfl) (HV.mv rfl) ?_
              obtain ⟨g139, z140, cs141, hz142, hK143, hC144, hg145, hP146⟩ := OwnK.ix (q := (i : Int)) hoW sl24 (by omega) (by omega)
              have X147 := Ext.refl H131
              obtain rfl : cs141 = [.int .i64 z140] := hK143
              refine AL.val rfl (.inl rfl) (hP146 rfl rfl) ?_
              refine AL.val rfl (.inl rfl) (HV.ld rfl va2 (cells_first hC144 rfl)) ?_
              refine AL.val rfl (.inl rfl) (HV.as rfl) ?_
              refine AL.val rfl (.inl rfl) (HV.as rfl) ?_
              refine AL.nx ?_
              refine AW.seq ?_
              refine AW.draw' [0, 0, 0, 6, 14, 31, 0, 127, 255] mixed (by rfl) ?_
              refine Dr.read 0 _ 62 _ rfl rfl rfl rfl rfl (RV.of (by intro _ _ h; cases h) (.inl rfl) (fun _ xd => HV.mv rfl)) ?_
              refine Dr.read 1 _ 63 _ rfl rfl rfl rfl rfl (RV.of (by intro _ _ h; cases h) (.inl rfl) (fun _ xd => HV.mv rfl)) ?_
              refine Dr.read 2 _ 64 _ rfl rfl rfl rfl rfl (RV.of (by intro _ _ h; cases h) (.inl rfl) (fun _ xd => HV.mv rfl)) ?_
              obtain ⟨p148, z149, cs150, hz151, hK152, hC153, hP154⟩ := RdK.ix (q := (i : Int)) hr80 sl24 (by omega) (by rw [List.length_map]; omega)
              obtain rfl : cs150 = [.int .i64 z149] := hK152
              refine Dr.read 3 _ 65 _ rfl rfl rfl rfl rfl (RV.of (by intro _ _ h; cases h) (.inl rfl) (fun _ xd => hP154 rfl rfl)) ?_
              refine Dr.read 4 _ 66 _ rfl rfl rfl rfl rfl (RV.of (by intro _ _ h; cases h) (.inl rfl) (fun _ xd => HV.ld rfl va2 (rdc_ext xd (cells_first (hC153.ext X135) rfl)))) ?_
              refine Dr.read 5 _ 67 _ rfl rfl rfl rfl rfl (RV.of (by intro _ _ h; cases h) (.inl rfl) (fun _ xd => HV.mul rfl rfl (by have q1 := wts_at (show 2 ≤ p by omega) hz142; have q2 : 0 ≤ z149 ∧ z149 ≤ p - 1 := elem_at hv.2.1 hz151; have q3 := mul31 (a := z140) (b := z149) (by omega) (by omega) (by omega) (by omega); omega))) ?_
              refine Dr.read 6 _ 68 _ rfl rfl rfl rfl rfl (RV.of (by intro _ _ h; cases h) (.inl rfl) (fun _ xd => HV.ld rfl va2 (rdc_ext xd (at_cell hb136 rfl)))) ?_
              refine Dr.read 7 _ 69 _ rfl rfl rfl rfl rfl (RV.of (by intro _ _ h; cases h) (.inl rfl) (fun _ xd => HV.rem rfl rfl (by have q1 := wts_at (show 2 ≤ p by omega) hz142; have q2 : 0 ≤ z149 ∧ z149 ≤ p - 1 := elem_at hv.2.1 hz151; have q3 := mul31 (a := z140) (b := z149) (by omega) (by omega) (by omega) (by omega); omega))) ?_
              refine Dr.read 8 _ 16 _ rfl rfl rfl rfl rfl (RV.of (by intro _ _ h; cases h) (.inl rfl) (fun _ xd => HV.as rfl)) ?_
              refine Dr.fin rfl ?_
              refine nrm_and ?_
              refine AW.seq ?_
              refine AW.rs ?_
              refine AL.val rfl (.inl rfl) (HV.mv rfl) ?_
              refine AL.val rfl (.inl rfl) (HV.mv rfl) ?_
              obtain ⟨p155, z156, cs157, hz158, hK159, hC160, hP161⟩ := RdK.ix (q := (i : Int)) hr2 sl36 (by omega) (by omega)
              obtain ⟨v162, rfl, hr163⟩ := hK159
              have hm164 := hr163.max
              refine AL.val rfl (.inl rfl) (hP161 rfl rfl) ?_
              refine AL.val rfl (.inl rfl) (HV.ld rfl va24 (cells_first (hC160.ext X132) rfl)) ?_
              refine AL.val rfl (.inl rfl) (HV.len Try.underlying24 rfl hr163.isSl) ?_
              refine AL.val rfl (.inl rfl) (HV.mv rfl) ?_
              refine AL.nx ?_
              refine AW.block ?_
              have hml := (hgd.2 i (by omega)).1
              have hme := (hgd.2 i (by omega)).2
              have ha0 := emod_bd (show 0 < p by omega) ((wts p (l.map Prod.fst) x (l.map Prod.fst).length).getD i 0 * (l.getD i (0, 0)).2)
              have e3_ : m.getD i [] = z156 := gd hz158 rfl
              have e3l_ : (m.getD i []).length = z156.length := by rw [e3_]
              refine AW.loop (σ := Nat × Int) (fun ⟨j, a⟩ => [(3, vm), (4, .pointer (some ⟨b3, 0, none⟩)), (8, (.slice none 0 0)), (9, .int .i64 0), (12, v76), (13, vv), (14, .int .i64 (i : Int)), (15, .int .i64 z140), (55, v115), (56, .int .i64 ((wts p (l.map Prod.fst) x (l.map Prod.fst).length).length : Int)), (57, .int .i64 (i : Int)), (58, .bool (decide ((i : Int) < ((wts p (l.map Prod.fst) x (l.map Prod.fst).length).length : Int)))), (59, .int .i64 (i : Int)), (60, .pointer (some ⟨g139, ((i : Int) : Int).toNat * (kI).sz, none⟩)), (61, .int .i64 z140), (62, .int .i64 z140), (63, v76), (64, .int .i64 (i : Int)), (65, .pointer (some p148)), (66, .int .i64 z149), (67, .int .i64 (z140 * z149)), (68, .int .i64 p), (69, .int .i64 ((z140 * z149) % p)), (70, vm), (71, .int .i64 (i : Int)), (72, .pointer (some p155)), (73, v162), (74, .int .i64 (z156.length : Int)), (16, .int .i64 a), (75, .int .i64 (j : Int))]) (fun ⟨j, a⟩ H' => Ext H H' ∧ Ext H4 H' ∧ Ext H31 H' ∧ Ext H77 H' ∧ Ext H131 H' ∧ At W H' b3 ⟨2, [.int .i64 p], 1⟩ ∧ At W H' b11 ⟨3, [.int .i64 (l.length : Int)], 1⟩ ∧ OwnD (kO 2 kI) 24 W H' (fun b => H77.bd ≤ b) vv k ∧ OwnK kI 2 W H' (fun b => H94.bd ≤ b ∧ some b = v115.ownBlock) v115 (wts p (l.map Prod.fst) x (l.map Prod.fst).length) ∧ j ≤ (m.getD i []).length ∧ a = lastE p ((wts p (l.map Prod.fst) x (l.map Prod.fst).length).getD i 0 * (l.getD i (0, 0)).2 % p) ((m.getD i []).take j) ∧ True) (fun ⟨j, a⟩ => (m.getD i []).length - j) (0, (z140 * z149) % p) ⟨X132, X133, X134, X135, X147, hb136, hb137, hoL, hoW, Nat.zero_le _, by have e1 : (wts p (l.map Prod.fst) x (l.map Prod.fst).length).getD i 0 = z140 := gd hz142 rfl; have e2 : (l.getD i (0, 0)).2 = z149 := map_getD.symm.trans (gd hz151 rfl); rw [e1, e2]; rfl, trivial⟩ ⟨rfl, rfl, rfl, rfl, rfl, rfl, rfl, rfl, rfl, rfl, rfl, rfl, rfl, rfl, rfl, rfl, rfl, rfl, rfl, rfl, rfl, rfl, rfl, rfl, rfl, rfl, rfl, rfl, rfl, rfl, trivial⟩ ?_
              rintro ⟨j, a⟩ H165 ⟨X166, X167, X168, X169, X170, hb171, hb172, ho173, ho174, hj, ha, _⟩
              have hain := lastE_in (show 0 < p by omega) ha0 ((m.getD i []).take j)
              rw [← ha] at hain
              refine AW.rs ?_
              refine AL.val rfl (.inl rfl) (HV.lti rfl rfl) ?_
              refine AL.nx ?_
              refine AW.seq ?_
              refine AW.ifd rfl (fun c175 => ?_) (fun c175 => ?_)
              · -- then
                refine AW.skip ?_
                refine nrm_and ?_
                refine AW.seq ?_
                refine AW.block ?_
                refine AW.rs ?_
                obtain ⟨p176, z177, cs178, hz179, hK180, hC181, hP182⟩ := RdK.ix (q := (j : Int)) hr163 sl24 (by omega) (by omega)
                obtain rfl : cs178 = [.int .i64 z177] := hK180
                refine AL.val rfl (.inl rfl) (hP182 rfl rfl) ?_
                refine AL.val rfl (.inl rfl) (HV.ld rfl va2 (cells_first (hC181.ext X166) rfl)) ?_
                refine AL.val rfl (.inl rfl) (HV.as rfl) ?_
                refine AL.nx ?_
                refine AW.reg ?_
                refine AL.val rfl (.inl rfl) (HV.mv rfl) ?_
                refine AL.val rfl (.inl rfl) (HV.mv rfl) ?_
                refine AL.val rfl (.inl rfl) (HV.sub rfl rfl (by have e3_ : m.getD i [] = z156 := gd hz158 rfl; have q1 := elem_at (e3_ ▸ hme) hz179; omega)) ?_
                refine AL.val rfl (.inl rfl) (HV.ld rfl va2 (at_cell hb171 rfl)) ?_
                refine AL.val rfl (.inl rfl) (HV.add rfl rfl (by have e3_ : m.getD i [] = z156 := gd hz158 rfl; have q1 := elem_at (e3_ ▸ hme) hz179; omega)) ?_
                refine AL.val rfl (.inl rfl) (HV.ld rfl va2 (at_cell hb171 rfl)) ?_
                refine AL.val rfl (.inl rfl) (HV.rem rfl rfl (by have e3_ : m.getD i [] = z156 := gd hz158 rfl; have q1 := elem_at (e3_ ▸ hme) hz179; omega)) ?_
                refine AL.val rfl (.inl rfl) (HV.as rfl) ?_
                refine AL.nil ?_
                refine nrm_blk (nrm_and ?_)
                refine AW.reg ?_
                refine AL.val rfl (.inl rfl) (HV.add rfl rfl (by omega)) ?_
                refine AL.val rfl (.inl rfl) (HV.mv rfl) ?_
                refine AL.nil ?_
                refine nrm_and ?_
                exact ⟨(j + 1, ((a - z177) + p) % p), ⟨X166, X167, X168, X169, X170, hb171, hb172, ho173, ho174, by first | omega | (rw [e3_]; omega), by rw [e3_] at ha ⊢; rw [lastE_snoc hz179, ← ha]; exact sub_plus, trivial⟩, by first | omega | (dsimp only; omega), ⟨rfl, rfl, rfl, rfl, rfl, rfl, rfl, rfl, rfl, rfl, rfl, rfl, rfl, rfl, rfl, rfl, rfl, rfl, rfl, rfl, rfl, rfl, rfl, rfl, rfl, rfl, rfl, rfl, rfl, rfl, trivial⟩⟩
              · -- else
                refine AW.exit ?_
                refine ex_and (ex_and (ex_blk ?_))
                refine nrm_and ?_
                refine AW.reg ?_
                refine AL.val rfl (.inl rfl) (HV.mv rfl) ?_
                refine AL.val rfl (.inl rfl) (HV.mv rfl) ?_
                refine AL.val rfl (.inl rfl) (HV.mv rfl) ?_
                obtain ⟨p183, z184, cs185, hz186, hK187, hC188, hP189⟩ := RdK.ix (q := (i : Int)) hr2 sl36 (by omega) (by omega)
                obtain ⟨v190, rfl, hr191⟩ := hK187
                have hm192 := hr191.max
                refine AL.val rfl (.inl rfl) (hP189 rfl rfl) ?_
                refine AL.val rfl (.inl rfl) (HV.ld rfl va24 (cells_first (hC188.ext X166) rfl)) ?_
                have hzl_ : z184.length ≤ 10 := by have e : m.getD i [] = z184 := gd hz186 rfl; rw [← e]; omega
                have X193 := Ext.refl H165
                have y194 := hb171.lt
                have y195 := hb172.lt
                have o196 := X166.bd
                have o197 := X167.bd
                have o198 := X168.bd
                have o199 := X169.bd
                have o200 := X170.bd
                have o201 := X193.bd
                have a202 := ho173.ltb
                have ho203 := ho173.okk (ok' := fun b => H77.bd ≤ b ∧ b < H165.bd) (fun b hb hlt => ⟨hb, hlt⟩)
                have a204 := ho174.ltb
                refine AL.w rfl (.inl rfl) (WV.call fn95 rfl (cloneI_ok (hr191.ext X166) (by omega))) ?_
                rintro v205 H206 ⟨hx207, ho208⟩
                have X209 := Ext.trans X166 hx207
                have X210 := Ext.trans X167 hx207
                have X211 := Ext.trans X168 hx207
                have X212 := Ext.trans X169 hx207
                have X213 := Ext.trans X170 hx207
                have X214 := Ext.trans X193 hx207
                have ho215 := ho203.ext hx207
                have ho216 := ho174.ext hx207
                have hb217 := hb171.ext hx207
                have hb218 := hb172.ext hx207
                refine AL.val rfl (.inl rfl) (HV.mv rfl) ?_
                have X220 := Ext.refl H206
                have y221 := hb217.lt
                have y222 := hb218.lt
                have o223 := X209.bd
                have o224 := X210.bd
                have o225 := X211.bd
                have o226 := X212.bd
                have o227 := X213.bd
                have o228 := X214.bd
                have o229 := X220.bd
                have a230 := ho215.ltb
                have a231 := ho216.ltb
                have a232 := ho208.ltb
                refine AL.w rfl (.inl rfl) (WV.bsK (K := kI) (l := ([a] : List Int)) (css := [[.int .i64 a]]) sl24 rfl rfl (by first | rfl | (simp [Instr.fill, Value.cells, kI, kB, kU, kS, Kd.sc]; done) | (simp [Instr.fill, Value.cells, kI, kB, kU, kS, Kd.sc, rng1, rng2, rng3, rng4, kP])) rfl (segs_cons rfl segs_nil)) ?_
                rintro v233 H234 ⟨hx235, ho236⟩
                have X237 := Ext.trans X209 hx235
                have X238 := Ext.trans X210 hx235
                have X239 := Ext.trans X211 hx235
                have X240 := Ext.trans X212 hx235
                have X241 := Ext.trans X213 hx235
                have X242 := Ext.trans X214 hx235
                have X243 := Ext.trans X220 hx235
                have ho244 := ho215.ext hx235
                have ho245 := ho216.ext hx235
                have ho246 := ho208.ext hx235
                have hb247 := hb217.ext hx235
                have hb248 := hb218.ext hx235
                have X250 := Ext.refl H234
                refine AL.w rfl (.inl rfl) (WV.apk sl24 rfl rfl ho246 ho236.rd (by simp; omega) (by simp; omega) (fun b hb _ e => Nat.lt_irrefl _ (Nat.lt_of_lt_of_le (a232 b e) hb))) ?_
                rintro v251 H252 ⟨hx253, ho254, hb255⟩
                have ho256 := ho254.narrow (ok' := fun b => H165.bd ≤ b) kI_flat (fun b q => (hb255 b q).elim (fun e => (ho246.blk b e).1) (fun e => Nat.le_trans X242.bd e))
                have X257 := Ext.thru X237 hx253 (fun b hb => Nat.le_trans o196 (ho246.blk b hb).1)
                have X258 := Ext.thru X238 hx253 (fun b hb => Nat.le_trans o197 (ho246.blk b hb).1)
                have X259 := Ext.thru X239 hx253 (fun b hb => Nat.le_trans o198 (ho246.blk b hb).1)
                have X260 := Ext.thru X240 hx253 (fun b hb => Nat.le_trans o199 (ho246.blk b hb).1)
                have X261 := Ext.thru X241 hx253 (fun b hb => Nat.le_trans o200 (ho246.blk b hb).1)
                have X262 := Ext.thru X242 hx253 (fun b hb => Nat.le_trans o201 (ho246.blk b hb).1)
                have ho265 := ho244.but hx253 (fun b hb _ e => by have h1 : H77.bd ≤ b ∧ b < H165.bd := hb; have h2 : H165.bd ≤ b := (ho246.blk b e).1; omega) (fun b hb => (ho246.blk b hb).2.2)
                have ho266 := ho245.but hx253 (fun b hb _ e => by have h1 := a204 b hb.2; have h2 : H165.bd ≤ b := (ho246.blk b e).1; omega) (fun b hb => (ho246.blk b hb).2.2)
                have hb268 := hb247.but hx253 (fun e => by have q : H165.bd ≤ _ := (ho246.blk _ e).1; omega)
                have hb269 := hb248.but hx253 (fun e => by have q : H165.bd ≤ _ := (ho246.blk _ e).1; omega)
                have X270 := Ext.refl H252
                have y271 := hb268.lt
                have y272 := hb269.lt
                have o273 := X257.bd
                have o274 := X258.bd
                have o275 := X259.bd
                have o276 := X260.bd
                have o277 := X261.bd
                have o278 := X262.bd
                have o279 := X270.bd
                have a280 := ho265.ltb
                have a281 := ho266.ltb
                have a282 := ho256.ltb
                have hc287 : v251.cells = #[v251] := by obtain ⟨A, c, e⟩ := ho256.isSl; rw [e]; rfl
                refine AL.w rfl (.inl rfl) (WV.bsO (okx := fun b => H165.bd ≤ b) (K := (kO 2 kI)) (l := ([(z184 ++ (([a] : List Int) : List Int))] : List (List Int))) (css := [[v251]]) sl36 rfl rfl (by simp [Instr.fill, hc287, kO, rng1]) rfl (segs_cons ⟨_, rfl, ho256⟩ segs_nil)) ?_
                rintro v283 H284 ⟨hx285, ho286⟩
                have X289 := Ext.trans X257 hx285
                have X290 := Ext.trans X258 hx285
                have X291 := Ext.trans X259 hx285
                have X292 := Ext.trans X260 hx285
                have X293 := Ext.trans X261 hx285
                have X294 := Ext.trans X262 hx285
                have X295 := Ext.trans X270 hx285
                have ho296 := ho265.ext hx285
                have ho297 := ho266.ext hx285
                have ho298 := ho256.ext hx285
                have hb299 := hb268.ext hx285
                have hb300 := hb269.ext hx285
                have ho288 := ho286.okk (ok' := fun b => H165.bd ≤ b) (fun b hb _ => hb.elim id (fun e => Nat.le_trans X262.bd e))
                have X302 := Ext.refl H284
                refine AL.w rfl (.inl rfl) (WV.apD (ok := fun b => H77.bd ≤ b) (B := H165.bd) sl36 rfl rfl ho296 ho288.rd X294.bd (by rw [hk2]; omega) (by rw [hk2]; omega)) ?_
                rintro v303 H304 ⟨hx305, ho306, hb307⟩
                have ho308 := ho306.okk (ok' := fun b => H77.bd ≤ b) (fun b hb _ => hb.elim id (fun e => Nat.le_trans o199 e))
                have d309 : ∀ b, some b = v115.ownBlock → some b = v303.ownBlock → False := fun b h1 h2 => (hb307 b h2).elim (fun e => hdis b h1 e) (fun e => by have := (ho297.blk b h1).2.1; omega)
                have X310 := Ext.thru X289 hx305 (fun b hb => Nat.le_trans o89 (ho296.blk b hb).1.1)
                have X311 := Ext.thru X290 hx305 (fun b hb => Nat.le_trans o90 (ho296.blk b hb).1.1)
                have X312 := Ext.thru X291 hx305 (fun b hb => Nat.le_trans o91 (ho296.blk b hb).1.1)
                have X313 := Ext.thru X292 hx305 (fun b hb => Nat.le_trans o92 (ho296.blk b hb).1.1)
                have ho318 := ho297.but hx305 (fun b h1 _ h2 => hdis b h1.2 h2) (fun b hb => (ho296.blk b hb).2.2)
                have hb319 := hb299.but hx305 (fun e => by have q : H77.bd ≤ _ := (ho296.blk _ e).1.1; omega)
                have hb320 := hb300.but hx305 (fun e => by have q : H77.bd ≤ _ := (ho296.blk _ e).1.1; omega)
                refine AL.val rfl (.inl rfl) (HV.as rfl) ?_
                refine AL.nil ?_
                refine nrm_blk (nrm_and ?_)
                refine AW.reg ?_
                refine AL.val rfl (.inl rfl) (HV.add rfl rfl (by omega)) ?_
                refine AL.val rfl (.inl rfl) (HV.mv rfl) ?_
                refine AL.nil ?_
                refine nrm_and ?_
                exact ⟨(i + 1, v303, (k ++ ([(z184 ++ (([a] : List Int) : List Int))] : List (List Int)))), ⟨X310, X311, X312, X313, hb319, hb320, by omega, by have hj2 : j = (m.getD i []).length := (by omega); rw [enrN_succ, hk]; exact congrArg (fun z => enrN p l m x i ++ [z]) (show enrE p l m x i = z184 ++ [a] by unfold enrE; rw [ha, hj2, List.take_length, (gd hz186 rfl : m.getD i [] = z184)]).symm, by simp [hk2], ho308, ho318, d309, trivial⟩, by first | omega | (dsimp only; omega), ⟨rfl, rfl, rfl, rfl, rfl, rfl, rfl, rfl, rfl, trivial⟩⟩
            · -- else
              refine AW.exit ?_
              refine ex_and (ex_and (ex_blk ?_))
              refine nrm_and ?_
              refine AW.rs ?_
              refine AL.val rfl (.inl rfl) (HV.mv rfl) ?_
              refine AL.val rfl (.inl rfl) (HV.as rfl) ?_
              refine AL.val rfl (.inl rfl) (HV.as rfl) ?_
              refine AL.nx ?_
              refine AW.ret ?_
              refine post_two rfl rfl rfl ?_ (.inr rfl)
              have hq_ := en0 hv hgd hn0; exact ⟨⟨_, _, by rw [hq_.1], hq_.2.symm, by have e : i = l.length := (by omega); have q := hoL.okk (fun b hb _ => Nat.le_trans o89 hb); rw [hk, e] at q; exact q⟩, X132⟩
    · -- true
      have c62_ : (!decide (primeI p ∧ elems p (([x] : List Int) : List Int))) = true := by rw [decide_eq_false c62]; rfl
      rw [c62_]
      refine AL.off rfl rfl (by decide) rfl ?_
      refine AL.off rfl rfl (by decide) rfl ?_
      refine AL.off rfl rfl (by decide) rfl ?_
      refine AL.off rfl rfl (by decide) rfl ?_
      refine AL.val rfl (.inl rfl) (HV.pickT rfl rfl) ?_
      refine AL.val rfl (.inl rfl) (HV.mv rfl) ?_
      refine AL.off rfl rfl (by decide) rfl ?_
      refine AL.off rfl rfl (by decide) rfl ?_
      refine AL.off rfl rfl (by decide) rfl ?_
      refine AL.val rfl (.inl rfl) (HV.pickT rfl rfl) ?_
      refine AL.val rfl (.inl rfl) (HV.as rfl) ?_
      refine AL.nx ?_
      refine AW.cond rfl (fun _ => ?_) (fun h => by cases h)
      refine AW.rs ?_
      refine AL.val rfl (.inl rfl) (HV.as rfl) ?_
      refine AL.val rfl (.inl rfl) (HV.as rfl) ?_
      refine AL.nx ?_
      refine AW.ret ?_
      refine ret_blk (ret_and ?_)
      refine post_two rfl rfl rfl ?_ (.inr rfl)
      have hv : vS p l := (by assumption); have hq_ := en2 (L := m) (at_ := x) hv (fun h => by first | exact c62 ⟨hv.1, elems_one.2 h.1.1⟩ | (have q := h.1.2; omega) | exact c62 h.2); exact ⟨⟨_, [], by rw [hq_.1], hq_.2.symm, OwnD.nil _⟩, X56⟩

set_option maxRecDepth 100000 in
theorem law_EnrollParts {v vm : Value} {l : List (Int × Int)} {m : List (List Int)} {ok ok2 : Nat → Prop} (p : Int) (hr : RdK (kP kI kI) W H ok v l) (x : Int) (hr2 : RdK (kR kI) W H ok2 vm m) (hW : W.heap.size ≤ H.bd) : ACalls Try.prog W 7 #[.int .i64 p, v, .int .i64 x, vm] H (fun r H' => r = .bool true ∧ Ext H H') := by
  refine ACalls.of (args := [.int .i64 p, v, .int .i64 x, vm]) Try.func7 rfl rfl ?_
  have X0 := Ext.refl H
  have hm1 := hr.max
  have hm2 := hr2.max
  refine AW.rs ?_
  refine AL.val rfl (.inl rfl) (HV.as rfl) ?_
  refine AL.nx ?_
  refine AW.rs ?_
  refine AL.val rfl (.inl rfl) (HV.as rfl) ?_
  refine AL.nx ?_
  refine AW.rs ?_
  refine AL.val rfl (.inl rfl) (HV.mv rfl) ?_
  refine AL.val rfl (.inl rfl) (HV.mv rfl) ?_
  refine AL.w rfl (.inl rfl) (WV.call fn15 rfl (szSh_ok hr 1048576 (by omega))) ?_
  rintro _ H3 ⟨⟨q5, rfl, ha6, hb7, he8⟩, hx4⟩
  have X9 := Ext.trans X0 hx4
  refine AL.val rfl (.inl rfl) (HV.as rfl) ?_
  refine AL.nx ?_
  refine AW.seq ?_
  refine AW.rs ?_
  refine AL.val rfl (.inl rfl) (HV.mv rfl) ?_
  refine AL.val rfl (.inl rfl) (HV.lti rfl rfl) ?_
  refine AL.nx ?_
  refine AW.ifd rfl (fun c10 => ?_) (fun c10 => ?_)
  · -- then
    refine AW.rs ?_
    refine AL.val rfl (.inl rfl) (HV.as rfl) ?_
    refine AL.nx ?_
    refine AW.ret ?_
    refine ret_and ?_
    refine post_one rfl rfl ?_ (.inr rfl)
    exact ⟨rfl, X9⟩
  · -- else
    refine AW.skip ?_
    refine nrm_and ?_
    refine AW.rs ?_
    refine AL.val rfl (.inl rfl) (HV.mv rfl) ?_
    refine AL.val rfl (.inl rfl) (HV.mv rfl) ?_
    refine AL.w rfl (.inl rfl) (WV.call fn26 rfl (szInt64SS_ok (q := q5) (hr2.ext X9) (by omega))) ?_
    rintro _ H11 ⟨⟨q13, rfl, ha14, hb15, he16⟩, hx12⟩
    have X17 := Ext.trans X9 hx12
    refine AL.val rfl (.inl rfl) (HV.as rfl) ?_
    refine AL.nx ?_
    refine AW.seq ?_
    refine AW.rs ?_
    refine AL.val rfl (.inl rfl) (HV.mv rfl) ?_
    refine AL.val rfl (.inl rfl) (HV.lti rfl rfl) ?_
    refine AL.nx ?_
    refine AW.ifd rfl (fun c18 => ?_) (fun c18 => ?_)
    · -- then
      refine AW.rs ?_
      refine AL.val rfl (.inl rfl) (HV.as rfl) ?_
      refine AL.nx ?_
      refine AW.ret ?_
      refine ret_and ?_
      refine post_one rfl rfl ?_ (.inr rfl)
      exact ⟨rfl, X17⟩
    · -- else
      refine AW.skip ?_
      refine nrm_and ?_
      refine AW.rs ?_
      refine AL.val rfl (.inl rfl) (HV.mv rfl) ?_
      refine AL.val rfl (.inl rfl) (HV.mv rfl) ?_
      refine AL.w rfl (.inl rfl) (WV.call fn17 rfl (toShS_ok (hr.ext X17) (he8 (by omega)))) ?_
      rintro v19 H20 ⟨hx21, ho22⟩
      have X24 := Ext.trans X17 hx21
      have X25 := Ext.refl H20
      have hr23 : RdK (kP kI kI) W H20 _ v19 l := ho22.rd
      refine AL.val rfl (.inl rfl) (HV.mv rfl) ?_
      refine AL.val rfl (.inl rfl) (HV.mv rfl) ?_
      refine AL.w rfl (.inl rfl) (WV.call fn28 rfl (toSS_ok (hr2.ext X24) (he16 (by omega)).1 (he16 (by omega)).2)) ?_
      rintro v26 H27 ⟨hx28, ho29⟩
      have X31 := Ext.trans X24 hx28
      have X32 := Ext.trans X25 hx28
      have X33 := Ext.refl H27
      have hr30 : RdK (kR kI) W H27 _ v26 m := ho29.rd.le (le_OR (Le.refl _))
      have o34 := X31.bd
      have o35 := X32.bd
      have o36 := X33.bd
      refine AL.w rfl (.inl rfl) (WV.call fn35 rfl (specEn_ok p (hr23.ext X32) x hr30 (he8 (by omega)))) ?_
      rintro _ H40 ⟨⟨v37, k38, rfl, hk39, ho42⟩, hx41⟩
      have X44 := Ext.trans X31 hx41
      have X45 := Ext.trans X32 hx41
      have X46 := Ext.trans X33 hx41
      have X47 := Ext.refl H40
      have hr43 := rd_ofO ho42.rd
      refine AL.val rfl (.inl rfl) (HV.mv rfl) ?_
      refine AL.val rfl (.inl rfl) (HV.ex rfl rfl) ?_
      refine AL.val rfl (.inl rfl) (HV.ex rfl rfl) ?_
      refine AL.val rfl (.inl rfl) (HV.as rfl) ?_
      refine AL.val rfl (.inl rfl) (HV.as rfl) ?_
      refine AL.nx ?_
      refine AW.rs ?_
      refine AL.val rfl (.inl rfl) (HV.mv rfl) ?_
      have o48 := X44.bd
      have o49 := X45.bd
      have o50 := X46.bd
      have o51 := X47.bd
      refine AL.w rfl (.inl rfl) (WV.call fn17 rfl (toShS_ok (hr.ext X44) (he8 (by omega)))) ?_
      rintro v52 H53 ⟨hx54, ho55⟩
      have X57 := Ext.trans X44 hx54
      have X58 := Ext.trans X45 hx54
      have X59 := Ext.trans X46 hx54
      have X60 := Ext.trans X47 hx54
      have X61 := Ext.refl H53
      have ho56 := ho55.okk (ok' := fun b => H40.bd ≤ b ∧ b < H53.bd) (fun b hb hlt => ⟨hb, hlt⟩)
      refine AL.val rfl (.inl rfl) (HV.as rfl) ?_
      refine AL.nx ?_
      refine AW.rs ?_
      refine AL.val rfl (.inl rfl) (HV.mv rfl) ?_
      have o63 := X57.bd
      have o64 := X58.bd
      have o65 := X59.bd
      have o66 := X60.bd
      have o67 := X61.bd
      have a68 := ho56.ltb
      refine AL.w rfl (.inl rfl) (WV.call fn28 rfl (toSS_ok (hr2.ext X57) (he16 (by omega)).1 (he16 (by omega)).2)) ?_
      rintro v69 H70 ⟨hx71, ho72⟩
      have X74 := Ext.trans X57 hx71
      have X75 := Ext.trans X58 hx71
      have X76 := Ext.trans X59 hx71
      have X77 := Ext.trans X60 hx71
      have X78 := Ext.trans X61 hx71
      have ho79 := ho56.ext hx71
      have X80 := Ext.refl H70
      have ho73 := ho72.okk (ok' := fun b => H53.bd ≤ b ∧ b < H70.bd) (fun b hb hlt => ⟨hb, hlt⟩)
      refine AL.val rfl (.inl rfl) (HV.as rfl) ?_
      refine AL.nx ?_
      refine AW.rs ?_
      refine AL.val rfl (.inl rfl) (HV.mv rfl) ?_
      refine AL.val rfl (.inl rfl) (HV.mv rfl) ?_
      refine AL.val rfl (.inl rfl) (HV.mv rfl) ?_
      refine AL.val rfl (.inl rfl) (HV.mv rfl) ?_
      have o82 := X74.bd
      have o83 := X75.bd
      have o84 := X76.bd
      have o85 := X77.bd
      have o86 := X78.bd
      have o87 := X80.bd
      have a88 := ho79.ltb
      have a89 := ho73.ltb
      have s90 := ho73.lo
      refine AL.w rfl (.inl rfl) (WV.call fn36 rfl (implEn_ok p ho79.rd x (rd_ofO ho73.rd) (he8 (by omega)))) ?_
      rintro _ H94 ⟨⟨v91, k92, rfl, hk93, ho96⟩, hx95⟩
      have X98 := Ext.trans X74 hx95
      have X99 := Ext.trans X75 hx95
      have X100 := Ext.trans X76 hx95
      have X101 := Ext.trans X77 hx95
      have X102 := Ext.trans X78 hx95
      have X103 := Ext.trans X80 hx95
      have ho104 := ho79.ext hx95
      have s106 := s90.ext hx95
      have ho105 := ho73.ext hx95
      have X107 := Ext.refl H94
      have hsh_ : k92.length ≤ 1048576 ∧ ∀ x ∈ k92, x.length ≤ 1048576 := by rw [hk93]; exact en_short rfl
      have hof_ := offs_le (B := 1048576) hsh_.2 k92.length (Nat.le_refl _)
      have hr97 := ho96.okk (ok' := fun b => H70.bd ≤ b ∧ b < H94.bd) (fun b hb hlt => ⟨hb, hlt⟩)
      refine AL.val rfl (.inl rfl) (HV.mv rfl) ?_
      refine AL.val rfl (.inl rfl) (HV.ex rfl rfl) ?_
      refine AL.val rfl (.inl rfl) (HV.ex rfl rfl) ?_
      refine AL.val rfl (.inl rfl) (HV.as rfl) ?_
      refine AL.val rfl (.inl rfl) (HV.as rfl) ?_
      refine AL.nx ?_
      refine AW.seq ?_
      refine AW.rs ?_
      refine AL.val rfl (.inl rfl) (HV.mv rfl) ?_
      refine AL.val rfl (.inl rfl) (HV.mv rfl) ?_
      refine AL.w rfl (.inl rfl) (WV.call fn30 rfl (eqSS_ok (rd_ofO hr97.rd) (hr43.ext X101))) ?_
      rintro _ H109 ⟨rfl, hx110⟩
      have X111 := Ext.trans X98 hx110
      have X112 := Ext.trans X99 hx110
      have X113 := Ext.trans X100 hx110
      have X114 := Ext.trans X101 hx110
      have X115 := Ext.trans X102 hx110
      have X116 := Ext.trans X103 hx110
      have X117 := Ext.trans X107 hx110
      have ho118 := ho104.ext hx110
      have s120 := s106.ext hx110
      have ho119 := ho105.ext hx110
      have ho121 := hr97.ext hx110
      refine AL.val rfl (.inl rfl) (HV.not rfl) ?_
      refine AL.val rfl (.inl rfl) (HV.mv rfl) ?_
      by_cases c122 : k92 = k38
      · -- false
        have c122_ : (!decide (k92 = k38)) = false := by rw [decide_eq_true c122]; rfl
        rw [c122_]
        refine AL.val rfl (.inr ⟨_, _, _, rfl, rfl, rfl⟩) (HV.mv rfl) ?_
        refine AL.val rfl (.inr ⟨_, _, _, rfl, rfl, rfl⟩) (HV.mv rfl) ?_
        refine AL.val rfl (.inr ⟨_, _, _, rfl, rfl, rfl⟩) (HV.nei rfl rfl) ?_
        refine AL.val rfl (.inl rfl) (HV.pickF rfl rfl) ?_
        refine AL.nx ?_
        refine AW.ifd rfl (fun c123 => ?_) (fun c123 => ?_)
        · -- then
          refine AW.rs ?_
          refine AL.val rfl (.inl rfl) (HV.as rfl) ?_
          refine AL.nx ?_
          refine AW.ret ?_
          refine ret_and ?_
          refine post_one rfl rfl ?_ (.inr rfl)
          exfalso; first | omega | exact absurd (hk93.trans hk39.symm) c123 | (simp at c123; done) | exact absurd c123 (by simp)
        · -- else
          refine AW.skip ?_
          refine nrm_and ?_
          refine AW.seq ?_
          refine AW.rs ?_
          refine AL.val rfl (.inl rfl) (HV.mv rfl) ?_
          refine AL.val rfl (.inl rfl) (HV.mv rfl) ?_
          refine AL.w rfl (.inl rfl) (WV.call fn17 rfl (toShS_ok (hr.ext X111) (he8 (by omega)))) ?_
          rintro v124 H125 ⟨hx126, ho127⟩
          have X129 := Ext.trans X111 hx126
          have X130 := Ext.trans X112 hx126
          have X131 := Ext.trans X113 hx126
          have X132 := Ext.trans X114 hx126
          have X133 := Ext.trans X115 hx126
          have X134 := Ext.trans X116 hx126
          have X135 := Ext.trans X117 hx126
          have ho136 := ho118.ext hx126
          have s138 := s120.ext hx126
          have ho137 := ho119.ext hx126
          have ho139 := ho121.ext hx126
          have X140 := Ext.refl H125
          have hr128 : RdK (kP kI kI) W H125 _ v124 l := ho127.rd
          refine AL.w rfl (.inl rfl) (WV.call fn20 rfl (eqShS_ok ho136.rd hr128)) ?_
          rintro _ H141 ⟨rfl, hx142⟩
          have X143 := Ext.trans X129 hx142
          have X144 := Ext.trans X130 hx142
          have X145 := Ext.trans X131 hx142
          have X146 := Ext.trans X132 hx142
          have X147 := Ext.trans X133 hx142
          have X148 := Ext.trans X134 hx142
          have X149 := Ext.trans X135 hx142
          have X150 := Ext.trans X140 hx142
          have ho151 := ho136.ext hx142
          have s153 := s138.ext hx142
          have ho152 := ho137.ext hx142
          have ho154 := ho139.ext hx142
          refine AL.val rfl (.inl rfl) (HV.not rfl) ?_
          refine AL.nx ?_
          refine AW.ifn rfl (fun c155 => ?_) (fun c155 => ?_)
          · -- then
            refine AW.rs ?_
            refine AL.val rfl (.inl rfl) (HV.as rfl) ?_
            refine AL.nx ?_
            refine AW.ret ?_
            refine ret_and ?_
            refine post_one rfl rfl ?_ (.inr rfl)
            exfalso; first | omega | exact absurd (hk93.trans hk39.symm) c155 | (simp at c155; done) | exact absurd c155 (by simp)
          · -- else
            refine AW.skip ?_
            refine nrm_and ?_
            refine AW.seq ?_
            refine AW.rs ?_
            refine AL.val rfl (.inl rfl) (HV.mv rfl) ?_
            refine AL.val rfl (.inl rfl) (HV.mv rfl) ?_
            refine AL.w rfl (.inl rfl) (WV.call fn28 rfl (toSS_ok (hr2.ext X143) (he16 (by omega)).1 (he16 (by omega)).2)) ?_
            rintro v156 H157 ⟨hx158, ho159⟩
            have X161 := Ext.trans X143 hx158
            have X162 := Ext.trans X144 hx158
            have X163 := Ext.trans X145 hx158
            have X164 := Ext.trans X146 hx158
            have X165 := Ext.trans X147 hx158
            have X166 := Ext.trans X148 hx158
            have X167 := Ext.trans X149 hx158
            have X168 := Ext.trans X150 hx158
            have ho169 := ho151.ext hx158
            have s171 := s153.ext hx158
            have ho170 := ho152.ext hx158
            have ho172 := ho154.ext hx158
            have X173 := Ext.refl H157
            have hr160 : RdK (kR kI) W H157 _ v156 m := ho159.rd.le (le_OR (Le.refl _))
            refine AL.w rfl (.inl rfl) (WV.call fn30 rfl (eqSS_ok (rd_ofO ho170.rd) hr160)) ?_
            rintro _ H174 ⟨rfl, hx175⟩
            have X176 := Ext.trans X161 hx175
            have X177 := Ext.trans X162 hx175
            have X178 := Ext.trans X163 hx175
            have X179 := Ext.trans X164 hx175
            have X180 := Ext.trans X165 hx175
            have X181 := Ext.trans X166 hx175
            have X182 := Ext.trans X167 hx175
            have X183 := Ext.trans X168 hx175
            have X184 := Ext.trans X173 hx175
            have ho185 := ho169.ext hx175
            have s187 := s171.ext hx175
            have ho186 := ho170.ext hx175
            have ho188 := ho172.ext hx175
            refine AL.val rfl (.inl rfl) (HV.not rfl) ?_
            refine AL.nx ?_
            refine AW.ifn rfl (fun c189 => ?_) (fun c189 => ?_)
            · -- then
              refine AW.rs ?_
              refine AL.val rfl (.inl rfl) (HV.as rfl) ?_
              refine AL.nx ?_
              refine AW.ret ?_
              refine ret_and ?_
              refine post_one rfl rfl ?_ (.inr rfl)
              exfalso; first | omega | exact absurd (hk93.trans hk39.symm) c189 | (simp at c189; done) | exact absurd c189 (by simp)
            · -- else
              refine AW.skip ?_
              refine nrm_and ?_
              refine AW.rs ?_
              refine AL.val rfl (.inl rfl) (HV.as rfl) ?_
              refine AL.nx ?_
              refine AW.rs ?_
              refine AL.val rfl (.inl rfl) (HV.mv rfl) ?_
              refine AL.val rfl (.inl rfl) (HV.mv rfl) ?_
              refine AL.w rfl (.inl rfl) (WV.call fn21 rfl (markSh_ok 1 ho185 (by omega))) ?_
              rintro _ H190 ⟨k191, rfl, hk192, hh193, hx194, ho195⟩
              have X196 := Ext.thru X176 hx194 (fun b hb => Nat.le_trans o48 (ho185.blk b hb).1.1)
              have X197 := Ext.thru X177 hx194 (fun b hb => Nat.le_trans o49 (ho185.blk b hb).1.1)
              have X198 := Ext.thru X178 hx194 (fun b hb => Nat.le_trans o50 (ho185.blk b hb).1.1)
              have X199 := Ext.thru X179 hx194 (fun b hb => Nat.le_trans o51 (ho185.blk b hb).1.1)
              have ho205 := ho186.but hx194 (fun b hb _ e => by have h1 : H53.bd ≤ b ∧ b < H70.bd := hb; have h2 : H40.bd ≤ b ∧ b < H53.bd := (ho185.blk b e).1; omega) (fun b hb => (ho185.blk b hb).2.2)
              have ho206 := ho188.but hx194 (fun b hb _ e => by have h1 : H70.bd ≤ b ∧ b < H94.bd := hb; have h2 : H40.bd ≤ b ∧ b < H53.bd := (ho185.blk b e).1; omega) (fun b hb => (ho185.blk b hb).2.2)
              refine AL.val rfl (.inl rfl) (HV.as rfl) ?_
              refine AL.nx ?_
              refine AW.rs ?_
              refine AL.val rfl (.inl rfl) (HV.mv rfl) ?_
              refine AL.val rfl (.inl rfl) (HV.mv rfl) ?_
              refine AL.w rfl (.inl rfl) (WV.call fn31 rfl (markSS_ok ho205 (he16 (by omega)) (1 + 2 * (l.length : Int)) (by omega))) ?_
              rintro _ H207 ⟨⟨q208, rfl, ha209⟩, hx210⟩
              have X211 := Ext.thru X196 hx210 (fun b hb => Nat.le_trans o63 hb.1)
              have X212 := Ext.thru X197 hx210 (fun b hb => Nat.le_trans o64 hb.1)
              have X213 := Ext.thru X198 hx210 (fun b hb => Nat.le_trans o65 hb.1)
              have X214 := Ext.thru X199 hx210 (fun b hb => Nat.le_trans o66 hb.1)
              have ho215 := ho206.but hx210 (fun b hb _ e => by have h1 : H70.bd ≤ b ∧ b < H94.bd := hb; have h2 : H53.bd ≤ b ∧ b < H70.bd := e; omega) (fun b hb => by have h2 : H53.bd ≤ b ∧ b < H70.bd := hb; omega)
              refine AL.val rfl (.inl rfl) (HV.as rfl) ?_
              refine AL.nx ?_
              refine AW.seq ?_
              refine AW.rs ?_
              refine AL.val rfl (.inl rfl) (HV.mv rfl) ?_
              refine AL.val rfl (.inl rfl) (HV.lti rfl rfl) ?_
              refine AL.val rfl (.inl rfl) (HV.mv rfl) ?_
              by_cases c216 : q208 < 0
              · -- true
                have c216_ : decide (q208 < 0) = true := decide_eq_true c216
                rw [c216_]
                refine AL.off rfl rfl (by decide) rfl ?_
                refine AL.off rfl rfl (by decide) rfl ?_
                refine AL.off rfl rfl (by decide) rfl ?_
                refine AL.off rfl rfl (by decide) rfl ?_
                refine AL.val rfl (.inl rfl) (HV.pickT rfl rfl) ?_
                refine AL.val rfl (.inl rfl) (HV.mv rfl) ?_
                refine AL.off rfl rfl (by decide) rfl ?_
                refine AL.off rfl rfl (by decide) rfl ?_
                refine AL.off rfl rfl (by decide) rfl ?_
                refine AL.val rfl (.inl rfl) (HV.pickT rfl rfl) ?_
                refine AL.nx ?_
                refine AW.cond rfl (fun _ => ?_) (fun h => by cases h)
                refine AW.rs ?_
                refine AL.val rfl (.inl rfl) (HV.as rfl) ?_
                refine AL.nx ?_
                refine AW.ret ?_
                refine ret_and ?_
                refine post_one rfl rfl ?_ (.inr rfl)
                exfalso; first | omega | exact absurd (hk93.trans hk39.symm) c216 | (simp at c216; done) | exact absurd c216 (by simp)
              · -- false
                have c216_ : decide (q208 < 0) = false := decide_eq_false c216
                rw [c216_]
                refine AL.val rfl (.inr ⟨_, _, _, rfl, rfl, rfl⟩) (HV.mv rfl) ?_
                refine AL.val rfl (.inr ⟨_, _, _, rfl, rfl, rfl⟩) (HV.mv rfl) ?_
                refine AL.w rfl (.inr ⟨_, _, _, rfl, rfl, rfl⟩) (WV.call fn30 rfl (eqSS_ok (rd_ofO ho215.rd) (hr43.ext X214))) ?_
                rintro _ H218 ⟨rfl, hx219⟩
                have X220 := Ext.trans X211 hx219
                have X221 := Ext.trans X212 hx219
                have X222 := Ext.trans X213 hx219
                have X223 := Ext.trans X214 hx219
                have ho224 := ho215.ext hx219
                refine AL.val rfl (.inr ⟨_, _, _, rfl, rfl, rfl⟩) (HV.not rfl) ?_
                refine AL.val rfl (.inl rfl) (HV.pickF rfl rfl) ?_
                refine AL.val rfl (.inl rfl) (HV.mv rfl) ?_
                by_cases c225 : k92 = k38
                · -- false
                  have c225_ : (!decide (k92 = k38)) = false := by rw [decide_eq_true c225]; rfl
                  rw [c225_]
                  refine AL.val rfl (.inr ⟨_, _, _, rfl, rfl, rfl⟩) (HV.mv rfl) ?_
                  refine AL.val rfl (.inr ⟨_, _, _, rfl, rfl, rfl⟩) (HV.mv rfl) ?_
                  refine AL.val rfl (.inr ⟨_, _, _, rfl, rfl, rfl⟩) (HV.nei rfl rfl) ?_
                  refine AL.val rfl (.inl rfl) (HV.pickF rfl rfl) ?_
                  refine AL.nx ?_
                  refine AW.ifd rfl (fun c226 => ?_) (fun c226 => ?_)
                  · -- then
                    refine AW.rs ?_
                    refine AL.val rfl (.inl rfl) (HV.as rfl) ?_
                    refine AL.nx ?_
                    refine AW.ret ?_
                    refine ret_and ?_
                    refine post_one rfl rfl ?_ (.inr rfl)
                    exfalso; first | omega | exact absurd (hk93.trans hk39.symm) c226 | (simp at c226; done) | exact absurd c226 (by simp)
                  · -- else
                    refine AW.skip ?_
                    refine nrm_and ?_
                    refine AW.rs ?_
                    refine AL.val rfl (.inl rfl) (HV.as rfl) ?_
                    refine AL.nx ?_
                    refine AW.rs ?_
                    refine AL.val rfl (.inl rfl) (HV.mv rfl) ?_
                    refine AL.val rfl (.inl rfl) (HV.mv rfl) ?_
                    refine AL.w rfl (.inl rfl) (WV.call fn31 rfl (markSS2_ok ho224 hsh_ 1 (by omega))) ?_
                    rintro _ H227 ⟨⟨k228, rfl, hs229, hh230, ho232⟩, hx231⟩
                    have X233 := Ext.thru X220 hx231 (fun b hb => Nat.le_trans o82 hb.1)
                    have X234 := Ext.thru X221 hx231 (fun b hb => Nat.le_trans o83 hb.1)
                    have X235 := Ext.thru X222 hx231 (fun b hb => Nat.le_trans o84 hb.1)
                    have X236 := Ext.thru X223 hx231 (fun b hb => Nat.le_trans o85 hb.1)
                    refine AL.val rfl (.inl rfl) (HV.as rfl) ?_
                    refine AL.nx ?_
                    refine AW.rs ?_
                    refine AL.val rfl (.inl rfl) (HV.as rfl) ?_
                    refine AL.nx ?_
                    refine AW.rs ?_
                    refine AL.val rfl (.inl rfl) (HV.mv rfl) ?_
                    refine AL.val rfl (.inl rfl) (HV.mv rfl) ?_
                    refine AL.w rfl (.inl rfl) (WV.call fn37 rfl (heldSS_ok 1 (rd_ofO ho232.rd) (by omega) hsh_ hs229 hh230)) ?_
                    rintro _ H237 ⟨rfl, hx238⟩
                    have X239 := Ext.trans X233 hx238
                    have X240 := Ext.trans X234 hx238
                    have X241 := Ext.trans X235 hx238
                    have X242 := Ext.trans X236 hx238
                    have ho243 := ho232.ext hx238
                    refine AL.val rfl (.inl rfl) (HV.as rfl) ?_
                    refine AL.nx ?_
                    refine AW.seq ?_
                    refine AW.rs ?_
                    refine AL.val rfl (.inl rfl) (HV.mv rfl) ?_
                    refine AL.val rfl (.inl rfl) (HV.lti rfl rfl) ?_
                    refine AL.nx ?_
                    refine AW.ifd rfl (fun c244 => ?_) (fun c244 => ?_)
                    · -- then
                      refine AW.rs ?_
                      refine AL.val rfl (.inl rfl) (HV.as rfl) ?_
                      refine AL.nx ?_
                      refine AW.ret ?_
                      refine ret_and ?_
                      refine post_one rfl rfl ?_ (.inr rfl)
                      exfalso; first | omega | exact absurd (hk93.trans hk39.symm) c244 | (simp at c244; done) | exact absurd c244 (by simp)
                    · -- else
                      refine AW.skip ?_
                      refine nrm_and ?_
                      refine AW.seq ?_
                      refine AW.rs ?_
                      refine AL.val rfl (.inl rfl) (HV.mv rfl) ?_
                      refine AL.val rfl (.inl rfl) (HV.mv rfl) ?_
                      refine AL.val rfl (.inl rfl) (HV.nei rfl rfl) ?_
                      refine AL.nx ?_
                      refine AW.ifd rfl (fun c245 => ?_) (fun c245 => ?_)
                      · -- then
                        refine AW.rs ?_
                        refine AL.val rfl (.inl rfl) (HV.as rfl) ?_
                        refine AL.nx ?_
                        refine AW.ret ?_
                        refine ret_and ?_
                        refine post_one rfl rfl ?_ (.inr rfl)
                        exfalso; first | omega | exact absurd (hk93.trans hk39.symm) c245 | (simp at c245; done) | exact absurd c245 (by simp)
                      · -- else
                        refine AW.skip ?_
                        refine nrm_and ?_
                        refine AW.rs ?_
                        refine AL.val rfl (.inl rfl) (HV.mv rfl) ?_
                        refine AL.val rfl (.inl rfl) (HV.mv rfl) ?_
                        refine AL.w rfl (.inl rfl) (WV.call fn17 rfl (toShS_ok (hr.ext X239) (he8 (by omega)))) ?_
                        rintro v246 H247 ⟨hx248, ho249⟩
                        have X251 := Ext.trans X239 hx248
                        have X252 := Ext.trans X240 hx248
                        have X253 := Ext.trans X241 hx248
                        have X254 := Ext.trans X242 hx248
                        have ho255 := ho243.ext hx248
                        have X256 := Ext.refl H247
                        have hr250 : RdK (kP kI kI) W H247 _ v246 l := ho249.rd
                        refine AL.val rfl (.inl rfl) (HV.mv rfl) ?_
                        refine AL.val rfl (.inl rfl) (HV.mv rfl) ?_
                        refine AL.w rfl (.inl rfl) (WV.call fn28 rfl (toSS_ok (hr2.ext X251) (he16 (by omega)).1 (he16 (by omega)).2)) ?_
                        rintro v257 H258 ⟨hx259, ho260⟩
                        have X262 := Ext.trans X251 hx259
                        have X263 := Ext.trans X252 hx259
                        have X264 := Ext.trans X253 hx259
                        have X265 := Ext.trans X254 hx259
                        have X266 := Ext.trans X256 hx259
                        have ho267 := ho255.ext hx259
                        have X268 := Ext.refl H258
                        have hr261 : RdK (kR kI) W H258 _ v257 m := ho260.rd.le (le_OR (Le.refl _))
                        have o269 := X262.bd
                        have o270 := X263.bd
                        have o271 := X264.bd
                        have o272 := X265.bd
                        have o273 := X266.bd
                        have o274 := X268.bd
                        have a275 := ho267.ltb
                        have s276 := ho267.lo
                        refine AL.w rfl (.inl rfl) (WV.call fn36 rfl (implEn_ok p (hr250.ext X266) x hr261 (he8 (by omega)))) ?_
                        rintro _ H280 ⟨⟨v277, k278, rfl, hk279, ho282⟩, hx281⟩
                        have X284 := Ext.trans X262 hx281
                        have X285 := Ext.trans X263 hx281
                        have X286 := Ext.trans X264 hx281
                        have X287 := Ext.trans X265 hx281
                        have X288 := Ext.trans X266 hx281
                        have X289 := Ext.trans X268 hx281
                        have s291 := s276.ext hx281
                        have ho290 := ho267.ext hx281
                        have X292 := Ext.refl H280
                        have hr283 := rd_ofO ho282.rd
                        refine AL.val rfl (.inl rfl) (HV.mv rfl) ?_
                        refine AL.val rfl (.inl rfl) (HV.ex rfl rfl) ?_
                        refine AL.val rfl (.inl rfl) (HV.ex rfl rfl) ?_
                        refine AL.val rfl (.inl rfl) (HV.as rfl) ?_
                        refine AL.val rfl (.inl rfl) (HV.as rfl) ?_
                        refine AL.nx ?_
                        refine AW.seq ?_
                        refine AW.rs ?_
                        refine AL.val rfl (.inl rfl) (HV.mv rfl) ?_
                        refine AL.val rfl (.inl rfl) (HV.mv rfl) ?_
                        refine AL.w rfl (.inl rfl) (WV.call fn30 rfl (eqSS_ok hr283 (hr43.ext X287))) ?_
                        rintro _ H293 ⟨rfl, hx294⟩
                        have X295 := Ext.trans X284 hx294
                        have X296 := Ext.trans X285 hx294
                        have X297 := Ext.trans X286 hx294
                        have X298 := Ext.trans X287 hx294
                        have X299 := Ext.trans X288 hx294
                        have X300 := Ext.trans X289 hx294
                        have X301 := Ext.trans X292 hx294
                        have s303 := s291.ext hx294
                        have ho302 := ho290.ext hx294
                        refine AL.val rfl (.inl rfl) (HV.not rfl) ?_
                        refine AL.val rfl (.inl rfl) (HV.mv rfl) ?_
                        by_cases c304 : k278 = k38
                        · -- false
                          have c304_ : (!decide (k278 = k38)) = false := by rw [decide_eq_true c304]; rfl
                          rw [c304_]
                          refine AL.val rfl (.inr ⟨_, _, _, rfl, rfl, rfl⟩) (HV.mv rfl) ?_
                          refine AL.val rfl (.inr ⟨_, _, _, rfl, rfl, rfl⟩) (HV.mv rfl) ?_
                          refine AL.val rfl (.inr ⟨_, _, _, rfl, rfl, rfl⟩) (HV.nei rfl rfl) ?_
                          refine AL.val rfl (.inl rfl) (HV.pickF rfl rfl) ?_
                          refine AL.nx ?_
                          refine AW.ifd rfl (fun c305 => ?_) (fun c305 => ?_)
                          · -- then
                            refine AW.rs ?_
                            refine AL.val rfl (.inl rfl) (HV.as rfl) ?_
                            refine AL.nx ?_
                            refine AW.ret ?_
                            refine ret_and ?_
                            refine post_one rfl rfl ?_ (.inr rfl)
                            exfalso; first | omega | exact absurd (hk93.trans hk39.symm) c305 | exact absurd (hk279.trans hk39.symm) c305 | (simp at c305; done) | exact absurd c305 (by simp)
                          · -- else
                            refine AW.skip ?_
                            refine nrm_and ?_
                            refine AW.rs ?_
                            refine AL.val rfl (.inl rfl) (HV.as rfl) ?_
                            refine AL.nx ?_
                            refine AW.rs ?_
                            refine AL.val rfl (.inl rfl) (HV.mv rfl) ?_
                            refine AL.val rfl (.inl rfl) (HV.mv rfl) ?_
                            refine AL.w rfl (.inl rfl) (WV.call fn37 rfl (heldSS_ok 1 (rd_ofO ho302.rd) (by omega) hsh_ hs229 hh230)) ?_
                            rintro _ H306 ⟨rfl, hx307⟩
                            have X308 := Ext.trans X295 hx307
                            have X309 := Ext.trans X296 hx307
                            have X310 := Ext.trans X297 hx307
                            have X311 := Ext.trans X298 hx307
                            have X312 := Ext.trans X299 hx307
                            have X313 := Ext.trans X300 hx307
                            have X314 := Ext.trans X301 hx307
                            have s316 := s303.ext hx307
                            have ho315 := ho302.ext hx307
                            refine AL.val rfl (.inl rfl) (HV.as rfl) ?_
                            refine AL.nx ?_
                            refine AW.seq ?_
                            refine AW.rs ?_
                            refine AL.val rfl (.inl rfl) (HV.mv rfl) ?_
                            refine AL.val rfl (.inl rfl) (HV.lti rfl rfl) ?_
                            refine AL.nx ?_
                            refine AW.ifd rfl (fun c317 => ?_) (fun c317 => ?_)
                            · -- then
                              refine AW.rs ?_
                              refine AL.val rfl (.inl rfl) (HV.as rfl) ?_
                              refine AL.nx ?_
                              refine AW.ret ?_
                              refine ret_and ?_
                              refine post_one rfl rfl ?_ (.inr rfl)
                              exfalso; first | omega | exact absurd (hk93.trans hk39.symm) c317 | exact absurd (hk279.trans hk39.symm) c317 | (simp at c317; done) | exact absurd c317 (by simp)
                            · -- else
                              refine AW.skip ?_
                              refine nrm_and ?_
                              refine AW.seq ?_
                              refine AW.rs ?_
                              refine AL.val rfl (.inl rfl) (HV.mv rfl) ?_
                              refine AL.val rfl (.inl rfl) (HV.mv rfl) ?_
                              refine AL.val rfl (.inl rfl) (HV.nei rfl rfl) ?_
                              refine AL.nx ?_
                              refine AW.ifd rfl (fun c318 => ?_) (fun c318 => ?_)
                              · -- then
                                refine AW.rs ?_
                                refine AL.val rfl (.inl rfl) (HV.as rfl) ?_
                                refine AL.nx ?_
                                refine AW.ret ?_
                                refine ret_and ?_
                                refine post_one rfl rfl ?_ (.inr rfl)
                                exfalso; first | omega | exact absurd (hk93.trans hk39.symm) c318 | exact absurd (hk279.trans hk39.symm) c318 | (simp at c318; done) | exact absurd c318 (by simp)
                              · -- else
                                refine AW.skip ?_
                                refine nrm_and ?_
                                refine AW.rs ?_
                                refine AL.val rfl (.inl rfl) (HV.as rfl) ?_
                                refine AL.nx ?_
                                refine AW.ret ?_
                                refine post_one rfl rfl ?_ (.inr rfl)
                                exact ⟨rfl, X308⟩
                        · -- true
                          have c304_ : (!decide (k278 = k38)) = true := by rw [decide_eq_false c304]; rfl
                          rw [c304_]
                          refine AL.off rfl rfl (by decide) rfl ?_
                          refine AL.off rfl rfl (by decide) rfl ?_
                          refine AL.off rfl rfl (by decide) rfl ?_
                          refine AL.val rfl (.inl rfl) (HV.pickT rfl rfl) ?_
                          refine AL.nx ?_
                          refine AW.cond rfl (fun _ => ?_) (fun h => by cases h)
                          refine AW.rs ?_
                          refine AL.val rfl (.inl rfl) (HV.as rfl) ?_
                          refine AL.nx ?_
                          refine AW.ret ?_
                          refine ret_and ?_
                          refine post_one rfl rfl ?_ (.inr rfl)
                          exfalso; first | omega | exact absurd (hk93.trans hk39.symm) c304 | exact absurd (hk279.trans hk39.symm) c304 | (simp at c304; done) | exact absurd c304 (by simp)
                · -- true
                  have c225_ : (!decide (k92 = k38)) = true := by rw [decide_eq_false c225]; rfl
                  rw [c225_]
                  refine AL.off rfl rfl (by decide) rfl ?_
                  refine AL.off rfl rfl (by decide) rfl ?_
                  refine AL.off rfl rfl (by decide) rfl ?_
                  refine AL.val rfl (.inl rfl) (HV.pickT rfl rfl) ?_
                  refine AL.nx ?_
                  refine AW.cond rfl (fun _ => ?_) (fun h => by cases h)
                  refine AW.rs ?_
                  refine AL.val rfl (.inl rfl) (HV.as rfl) ?_
                  refine AL.nx ?_
                  refine AW.ret ?_
                  refine ret_and ?_
                  refine post_one rfl rfl ?_ (.inr rfl)
                  exfalso; first | omega | exact absurd (hk93.trans hk39.symm) c225 | exact absurd (hk279.trans hk39.symm) c225 | (simp at c225; done) | exact absurd c225 (by simp)
      · -- true
        have c122_ : (!decide (k92 = k38)) = true := by rw [decide_eq_false c122]; rfl
        rw [c122_]
        refine AL.off rfl rfl (by decide) rfl ?_
        refine AL.off rfl rfl (by decide) rfl ?_
        refine AL.off rfl rfl (by decide) rfl ?_
        refine AL.val rfl (.inl rfl) (HV.pickT rfl rfl) ?_
        refine AL.nx ?_
        refine AW.cond rfl (fun _ => ?_) (fun h => by cases h)
        refine AW.rs ?_
        refine AL.val rfl (.inl rfl) (HV.as rfl) ?_
        refine AL.nx ?_
        refine AW.ret ?_
        refine ret_and ?_
        refine post_one rfl rfl ?_ (.inr rfl)
        exfalso; first | omega | exact absurd (hk93.trans hk39.symm) c122 | exact absurd (hk279.trans hk39.symm) c122 | (simp at c122; done) | exact absurd c122 (by simp)
end Go.Proofs.Ytonpikcbmgmchaa.VC
