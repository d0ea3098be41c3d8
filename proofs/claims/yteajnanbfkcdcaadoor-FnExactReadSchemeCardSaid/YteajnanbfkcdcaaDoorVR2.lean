/- Walks. -/
import Derived.Test.YteajnanbfkcdcaaDoorVRB
set_option linter.unusedVariables false
set_option linter.unusedSimpArgs false
namespace Go.Proofs.YteajnanbfkcdcaaDoor.VC
open Go Go.RowKit
/-! ### A text is cut step by step -/
theorem sp_start (c : Int) (t : List Int) : spI c t = [] ++ ((t.take 0).drop 0 ++ (spI c (t.drop 0)).headD []) :: (spI c (t.drop 0)).tail := by
  have h := spI_ne c t
  simp only [List.take_zero, List.drop_zero, List.nil_append]
  generalize spI c t = s at *
  cases s with
  | nil => exact absurd rfl h
  | cons a r => rfl
theorem drop_cons {t : List Int} {i : Nat} (h : i < t.length) : t.drop i = t.getD i 0 :: t.drop (i + 1) := by
  have e : t.getD i 0 = t[i] := by simp [h]
  rw [e]; exact List.drop_eq_getElem_cons h
theorem sp_hit {c : Int} {t : List Int} {k : List (List Int)} {i fr : Nat} (hi : i < t.length) (hc : t.getD i 0 = c) (h : spI c t = k ++ ((t.take i).drop fr ++ (spI c (t.drop i)).headD []) :: (spI c (t.drop i)).tail) :
    spI c t = (k ++ [(t.take i).drop fr]) ++ ((t.take (i + 1)).drop (i + 1) ++ (spI c (t.drop (i + 1))).headD []) :: (spI c (t.drop (i + 1))).tail := by
  rw [h, drop_cons hi, spI_cons, if_pos hc]
  have hn := spI_ne c (t.drop (i + 1))
  have e : (t.take (i + 1)).drop (i + 1) = [] := by rw [List.drop_eq_nil_iff]; exact List.length_take_le _ _
  rw [e]
  generalize spI c (t.drop (i + 1)) = s at *
  cases s with
  | nil => exact absurd rfl hn
  | cons a r => simp
theorem sp_miss {c : Int} {t : List Int} {k : List (List Int)} {i fr : Nat} (hi : i < t.length) (hf : fr ≤ i) (hc : ¬ t.getD i 0 = c) (h : spI c t = k ++ ((t.take i).drop fr ++ (spI c (t.drop i)).headD []) :: (spI c (t.drop i)).tail) :
    spI c t = k ++ ((t.take (i + 1)).drop fr ++ (spI c (t.drop (i + 1))).headD []) :: (spI c (t.drop (i + 1))).tail := by
  have e : (t.take (i + 1)).drop fr = (t.take i).drop fr ++ [t.getD i 0] := by
    have e1 : t.getD i 0 = t[i] := by simp [hi]
    rw [List.take_succ_eq_append_getElem hi, List.drop_append_of_le_length (by rw [List.length_take]; omega), e1]
  rw [e]
  rw [h, drop_cons hi, spI_cons, if_neg hc]
  simp
theorem sp_end {c : Int} {t : List Int} {k : List (List Int)} {i fr : Nat} (hi : i = t.length) (h : spI c t = k ++ ((t.take i).drop fr ++ (spI c (t.drop i)).headD []) :: (spI c (t.drop i)).tail) : spI c t = k ++ [t.drop fr] := by
  subst hi
  rw [h, List.take_length, List.drop_length]
  simp [spI]
/-! ### A number is read step by step -/
def foldN (t : List Int) : Int := t.foldl (fun n b => n * 10 + (b - 48)) 0
theorem foldN_snoc {t : List Int} {i : Nat} (hi : i < t.length) : foldN (t.take (i + 1)) = foldN (t.take i) * 10 + (t.getD i 0 - 48) := by
  have e1 : t.getD i 0 = t[i] := by simp [hi]
  unfold foldN
  rw [List.take_succ_eq_append_getElem hi, List.foldl_append, e1]; rfl
theorem numF_no {t : List Int} (h : ¬ ((1 ≤ t.length ∧ t.length ≤ 9) ∧ ¬ (t.getD 0 0 = 48 ∧ 1 < t.length))) : numF t = none := by
  unfold numF
  rw [if_neg]
  rintro ⟨⟨h1, h2, h3⟩, _⟩
  refine h ⟨⟨h1, h2⟩, ?_⟩
  cases t with
  | nil => simp at h1
  | cons a r => simpa using h3
theorem numF_bad {t : List Int} {i : Nat} (hi : i < t.length) (h : ¬ (48 ≤ t.getD i 0 ∧ t.getD i 0 ≤ 57)) : numF t = none := by
  unfold numF
  rw [if_neg]
  rintro ⟨_, h4⟩
  have e1 : t.getD i 0 = t[i] := by simp [hi]
  exact h (by rw [e1]; exact h4 _ (List.getElem_mem hi))
theorem numF_yes {t : List Int} (h : (1 ≤ t.length ∧ t.length ≤ 9) ∧ ¬ (t.getD 0 0 = 48 ∧ 1 < t.length)) (hd : ∀ j, j < t.length → 48 ≤ t.getD j 0 ∧ t.getD j 0 ≤ 57) : numF t = some (foldN t) := by
  unfold numF
  rw [if_pos]
  · rfl
  · refine ⟨⟨h.1.1, h.1.2, ?_⟩, fun b hb => ?_⟩
    · cases t with
      | nil => simp
      | cons a r => simpa using h.2
    · obtain ⟨j, hj, rfl⟩ := List.getElem_of_mem hb
      have := hd j hj
      simpa [hj] using this
theorem ten9 {i : Nat} (h : i ≤ 8) : 10 ^ i ≤ 100000000 := Nat.pow_le_pow_right (n := 10) (by decide) h
theorem i64_u8 {x : Int} (h : 0 ≤ x ∧ x ≤ 255) : IntKind.i64.wrap x = x := by
  have := (by decide +kernel : ∀ n : Fin 256, IntKind.i64.wrap ((n.val : Nat) : Int) = ((n.val : Nat) : Int)) ⟨x.toNat, by omega⟩
  simp only at this
  rwa [show ((x.toNat : Nat) : Int) = x by omega] at this
theorem rd_one {t : List Int} (h : t.length = 1) : (t.take 1).map (fun z => z - 65) = [t.getD 0 0 - 65] := by
  match t, h with
  | [a], _ => rfl
theorem map_take1 {t : List Int} {i : Nat} (hi : i < t.length) : (t.take i).map (fun z => z - 65) ++ [t.getD i 0 - 65] = (t.take (i + 1)).map (fun z => z - 65) := by
  have e1 : t.getD i 0 = t[i] := by simp [hi]
  rw [List.take_succ_eq_append_getElem hi, List.map_append, e1]; rfl
theorem ris_iff1 {z : Int} : Ris 0 (7 - 1) [z] ↔ 0 ≤ z ∧ z ≤ 6 := ⟨fun h => ris_in (q := 0) h rfl, ris_one⟩
theorem wordsI_snoc {l : List Int} {i : Nat} {z : Int} (h : l[i]? = some z) : wordsI (l.take (i + 1)) = wordsI (l.take i) ++ ([32] ++ itoaI z) := by
  obtain ⟨hi, e⟩ := List.getElem?_eq_some_iff.1 h
  unfold wordsI
  rw [List.take_succ_eq_append_getElem hi, List.flatMap_append, e]
  simp
theorem wordsI_isB (l : List Int) : isB (wordsI l) := fun z hz => by
  unfold wordsI at hz
  obtain ⟨x, _, hz⟩ := List.mem_flatMap.1 hz
  rcases List.mem_cons.1 hz with rfl | hz
  · decide
  · exact itoaI_isB x z hz
variable {W : World} {H : Hp}

set_option maxRecDepth 100000 in
theorem num_ok {t : List Int} (hb : isB t) (hl : t.length ≤ 4000) : ACalls Tryd.prog W 22 #[.string (bytesOf t)] H (fun r H' => (∃ v b, r = .tuple #[.int .i64 v, .bool b] ∧ numF t = (if b = true then some v else none)) ∧ Ext H H') := by
  refine ACalls.of (args := [.string (bytesOf t)]) Tryd.func22 rfl rfl ?_
  have X0 := Ext.refl H
  refine AW.rs ?_
  refine AL.val rfl (.inl rfl) (HV.as rfl) ?_
  refine AL.val rfl (.inl rfl) (HV.as rfl) ?_
  refine AL.nx ?_
  refine AW.seq ?_
  refine AW.rs ?_
  refine AL.val rfl (.inl rfl) (HV.mv rfl) ?_
  refine AL.val rfl (.inl rfl) (HV.lenB Tryd.underlying9 rfl) ?_
  refine AL.val rfl (.inl rfl) (HV.lti rfl rfl) ?_
  refine AL.val rfl (.inl rfl) (HV.mv rfl) ?_
  by_cases c1 : (t.length : Int) < 1
  · -- true
    have c1_ : decide ((t.length : Int) < 1) = true := decide_eq_true c1
    rw [c1_]
    refine AL.off rfl rfl (by decide) rfl ?_
    refine AL.off rfl rfl (by decide) rfl ?_
    refine AL.off rfl rfl (by decide) rfl ?_
    refine AL.val rfl (.inl rfl) (HV.pickT rfl rfl) ?_
    refine AL.val rfl (.inl rfl) (HV.mv rfl) ?_
    refine AL.off rfl rfl (by decide) rfl ?_
    refine AL.off rfl rfl (by decide) rfl ?_
    refine AL.off rfl rfl (by decide) rfl ?_
    refine AL.off rfl rfl (by decide) rfl ?_
    refine AL.offu rfl rfl rfl ?_
    refine AL.offu rfl rfl rfl ?_
    refine AL.offu rfl rfl rfl ?_
    refine AL.off rfl rfl (by decide) rfl ?_
    refine AL.val rfl (.inl rfl) (HV.pickT rfl rfl) ?_
    refine AL.nx ?_
    refine AW.cond rfl (fun _ => ?_) (fun h => by cases h)
    refine AW.rs ?_
    refine AL.val rfl (.inl rfl) (HV.as rfl) ?_
    refine AL.val rfl (.inl rfl) (HV.as rfl) ?_
    refine AL.nx ?_
    refine AW.ret ?_
    refine ret_and ?_
    refine post_two rfl rfl rfl ?_ (.inr rfl)
    exact ⟨⟨_, _, rfl, by rw [if_neg (by decide)]; exact numF_no (fun q => by have q1 := q.1; have q2 := q.2; omega)⟩, X0⟩
  · -- false
    have c1_ : decide ((t.length : Int) < 1) = false := decide_eq_false c1
    rw [c1_]
    refine AL.val rfl (.inr ⟨_, _, _, rfl, rfl, rfl⟩) (HV.mv rfl) ?_
    refine AL.val rfl (.inr ⟨_, _, _, rfl, rfl, rfl⟩) (HV.lenB Tryd.underlying9 rfl) ?_
    refine AL.val rfl (.inr ⟨_, _, _, rfl, rfl, rfl⟩) (HV.gti rfl rfl) ?_
    refine AL.val rfl (.inl rfl) (HV.pickF rfl rfl) ?_
    refine AL.val rfl (.inl rfl) (HV.mv rfl) ?_
    by_cases c3 : (t.length : Int) > 9
    · -- true
      have c3_ : decide ((t.length : Int) > 9) = true := decide_eq_true c3
      rw [c3_]
      refine AL.off rfl rfl (by decide) rfl ?_
      refine AL.off rfl rfl (by decide) rfl ?_
      refine AL.off rfl rfl (by decide) rfl ?_
      refine AL.off rfl rfl (by decide) rfl ?_
      refine AL.offu rfl rfl rfl ?_
      refine AL.offu rfl rfl rfl ?_
      refine AL.offu rfl rfl rfl ?_
      refine AL.off rfl rfl (by decide) rfl ?_
      refine AL.val rfl (.inl rfl) (HV.pickT rfl rfl) ?_
      refine AL.nx ?_
      refine AW.cond rfl (fun _ => ?_) (fun h => by cases h)
      refine AW.rs ?_
      refine AL.val rfl (.inl rfl) (HV.as rfl) ?_
      refine AL.val rfl (.inl rfl) (HV.as rfl) ?_
      refine AL.nx ?_
      refine AW.ret ?_
      refine ret_and ?_
      refine post_two rfl rfl rfl ?_ (.inr rfl)
      exact ⟨⟨_, _, rfl, by rw [if_neg (by decide)]; exact numF_no (fun q => by have q1 := q.1; have q2 := q.2; omega)⟩, X0⟩
    · -- false
      have c3_ : decide ((t.length : Int) > 9) = false := decide_eq_false c3
      rw [c3_]
      refine AL.val rfl (.inr ⟨_, _, _, rfl, rfl, rfl⟩) (HV.mv rfl) ?_
      refine AL.val rfl (.inr ⟨_, _, _, rfl, rfl, rfl⟩) (HV.ixB (n := 0) hb Tryd.underlying9 rfl rfl rfl (by omega)) ?_
      refine AL.val rfl (.inr ⟨_, _, _, rfl, rfl, rfl⟩) (HV.eqi rfl rfl) ?_
      refine AL.val rfl (.inr ⟨_, _, _, rfl, rfl, rfl⟩) (HV.mv rfl) ?_
      by_cases c5 : (t.getD 0 0) = 48
      · -- true
        have c5_ : decide ((t.getD 0 0) = 48) = true := decide_eq_true c5
        rw [c5_]
        refine AL.val rfl (.inr ⟨_, _, _, rfl, rfl, rfl⟩) (HV.mv rfl) ?_
        refine AL.val rfl (.inr ⟨_, _, _, rfl, rfl, rfl⟩) (HV.lenB Tryd.underlying9 rfl) ?_
        refine AL.val rfl (.inr ⟨_, _, _, rfl, rfl, rfl⟩) (HV.gti rfl rfl) ?_
        refine AL.val rfl (.inr ⟨_, _, _, rfl, rfl, rfl⟩) (HV.pickT rfl rfl) ?_
        refine AL.val rfl (.inl rfl) (HV.pickF rfl rfl) ?_
        refine AL.nx ?_
        refine AW.ifd rfl (fun c6 => ?_) (fun c6 => ?_)
        · -- then
          refine AW.rs ?_
          refine AL.val rfl (.inl rfl) (HV.as rfl) ?_
          refine AL.val rfl (.inl rfl) (HV.as rfl) ?_
          refine AL.nx ?_
          refine AW.ret ?_
          refine ret_and ?_
          refine post_two rfl rfl rfl ?_ (.inr rfl)
          exact ⟨⟨_, _, rfl, by rw [if_neg (by decide)]; exact numF_no (fun q => by have q1 := q.1; have q2 := q.2; omega)⟩, X0⟩
        · -- else
          refine AW.skip ?_
          refine nrm_and ?_
          refine AW.rs ?_
          refine AL.val rfl (.inl rfl) (HV.as rfl) ?_
          refine AL.nx ?_
          refine AW.seq ?_
          refine AW.rs ?_
          refine AL.val rfl (.inl rfl) (HV.as rfl) ?_
          refine AL.nx ?_
          refine AW.block ?_
          refine AW.loop (σ := Nat × Int) (fun ⟨i, s⟩ => [(0, .string (bytesOf t)), (4, .int .i64 s), (5, .int .i64 (i : Int))]) (fun ⟨i, s⟩ H' => Ext H H' ∧ i ≤ t.length ∧ s = foldN (t.take i) ∧ (0 ≤ s ∧ s < ((10 ^ i : Nat) : Int)) ∧ (∀ j, j < i → 48 ≤ t.getD j 0 ∧ t.getD j 0 ≤ 57) ∧ True) (fun ⟨i, s⟩ => t.length - i) (0, 0) ⟨X0, Nat.zero_le _, rfl, by decide, fun j hj => absurd hj (Nat.not_lt_zero _), trivial⟩ ⟨rfl, rfl, rfl, trivial⟩ ?_
          rintro ⟨i, s⟩ H7 ⟨X8, hi, hs, hs2, hd, _⟩
          have hgi := isB_at hb i
          have h10 := fun h : i ≤ 8 => ten9 h
          refine AW.seq ?_
          refine AW.rs ?_
          refine AL.val rfl (.inl rfl) (HV.mv rfl) ?_
          refine AL.val rfl (.inl rfl) (HV.mv rfl) ?_
          refine AL.val rfl (.inl rfl) (HV.lenB Tryd.underlying9 rfl) ?_
          refine AL.val rfl (.inl rfl) (HV.lti rfl rfl) ?_
          refine AL.nx ?_
          refine AW.ifd rfl (fun c9 => ?_) (fun c9 => ?_)
          · -- then
            refine AW.skip ?_
            refine nrm_and ?_
            refine AW.seq ?_
            refine AW.block ?_
            refine AW.seq ?_
            refine AW.rs ?_
            refine AL.val rfl (.inl rfl) (HV.mv rfl) ?_
            refine AL.val rfl (.inl rfl) (HV.mv rfl) ?_
            refine AL.val rfl (.inl rfl) (HV.ixB (n := i) hb Tryd.underlying9 rfl rfl rfl (by omega)) ?_
            refine AL.val rfl (.inl rfl) (HV.lti rfl rfl) ?_
            refine AL.val rfl (.inl rfl) (HV.mv rfl) ?_
            by_cases c10 : (t.getD i 0) < 48
            · -- true
              have c10_ : decide ((t.getD i 0) < 48) = true := decide_eq_true c10
              rw [c10_]
              refine AL.off rfl rfl (by decide) rfl ?_
              refine AL.off rfl rfl (by decide) rfl ?_
              refine AL.off rfl rfl (by decide) rfl ?_
              refine AL.off rfl rfl (by decide) rfl ?_
              refine AL.val rfl (.inl rfl) (HV.pickT rfl rfl) ?_
              refine AL.nx ?_
              refine AW.cond rfl (fun _ => ?_) (fun h => by cases h)
              refine AW.rs ?_
              refine AL.val rfl (.inl rfl) (HV.as rfl) ?_
              refine AL.val rfl (.inl rfl) (HV.as rfl) ?_
              refine AL.nx ?_
              refine AW.ret ?_
              refine ret_and (ret_blk (ret_and (ret_and (ret_blk (ret_and ?_)))))
              refine post_two rfl rfl rfl ?_ (.inr rfl)
              exact ⟨⟨_, _, rfl, by rw [if_neg (by decide)]; exact numF_bad (i := i) (by omega) (by omega)⟩, X8⟩
            · -- false
              have c10_ : decide ((t.getD i 0) < 48) = false := decide_eq_false c10
              rw [c10_]
              refine AL.val rfl (.inr ⟨_, _, _, rfl, rfl, rfl⟩) (HV.mv rfl) ?_
              refine AL.val rfl (.inr ⟨_, _, _, rfl, rfl, rfl⟩) (HV.mv rfl) ?_
              refine AL.val rfl (.inr ⟨_, _, _, rfl, rfl, rfl⟩) (HV.ixB (n := i) hb Tryd.underlying9 rfl rfl rfl (by omega)) ?_
              refine AL.val rfl (.inr ⟨_, _, _, rfl, rfl, rfl⟩) (HV.gti rfl rfl) ?_
              refine AL.val rfl (.inl rfl) (HV.pickF rfl rfl) ?_
              refine AL.nx ?_
              refine AW.ifd rfl (fun c12 => ?_) (fun c12 => ?_)
              · -- then
                refine AW.rs ?_
                refine AL.val rfl (.inl rfl) (HV.as rfl) ?_
                refine AL.val rfl (.inl rfl) (HV.as rfl) ?_
                refine AL.nx ?_
                refine AW.ret ?_
                refine ret_and (ret_blk (ret_and (ret_and (ret_blk (ret_and ?_)))))
                refine post_two rfl rfl rfl ?_ (.inr rfl)
                exact ⟨⟨_, _, rfl, by rw [if_neg (by decide)]; exact numF_bad (i := i) (by omega) (by omega)⟩, X8⟩
              · -- else
                refine AW.skip ?_
                refine nrm_and ?_
                refine AW.reg ?_
                refine AL.val rfl (.inl rfl) (HV.mv rfl) ?_
                refine AL.val rfl (.inl rfl) (HV.mul rfl rfl (by have := h10 (by omega); omega)) ?_
                refine AL.val rfl (.inl rfl) (HV.mv rfl) ?_
                refine AL.val rfl (.inl rfl) (HV.mv rfl) ?_
                refine AL.val rfl (.inl rfl) (HV.ixB (n := i) hb Tryd.underlying9 rfl rfl rfl (by omega)) ?_
                refine AL.val rfl (.inl rfl) (HV.subw rfl rfl) ?_
                have hwr := u8_id (a := t.getD i 0 - 48) ⟨by omega, by omega⟩
                refine AL.val rfl (.inl rfl) (HV.cve (by rw [Tryd.underlying5]; rfl) Tryd.underlying2 rfl (i64_u8 (by omega))) ?_
                refine AL.val rfl (.inl rfl) (HV.add rfl rfl (by have := h10 (by omega); omega)) ?_
                refine AL.val rfl (.inl rfl) (HV.as rfl) ?_
                refine AL.nil ?_
                refine nrm_blk (nrm_and ?_)
                refine AW.reg ?_
                refine AL.val rfl (.inl rfl) (HV.mv rfl) ?_
                refine AL.val rfl (.inl rfl) (HV.add rfl rfl (by omega)) ?_
                refine AL.val rfl (.inl rfl) (HV.as rfl) ?_
                refine AL.nil ?_
                refine nrm_and ?_
                exact ⟨(i + 1, (s * 10) + (IntKind.u8.wrap ((t.getD i 0) - 48))), ⟨X8, by omega, by rw [foldN_snoc (by omega), ← hs, hwr], by have h1 := h10 (by omega); rw [Nat.pow_succ]; omega, fun j hj => by
      rcases Nat.lt_or_ge j i with h1 | h1
      · exact hd j h1
      · obtain rfl : j = i := by omega
        omega, trivial⟩, by first | omega | (dsimp only; omega), ⟨rfl, rfl, rfl, trivial⟩⟩
          · -- else
            refine AW.exit ?_
            refine ex_and (ex_and (ex_blk ?_))
            refine nrm_and ?_
            refine AW.rs ?_
            refine AL.val rfl (.inl rfl) (HV.mv rfl) ?_
            refine AL.val rfl (.inl rfl) (HV.as rfl) ?_
            refine AL.val rfl (.inl rfl) (HV.as rfl) ?_
            refine AL.nx ?_
            refine AW.ret ?_
            refine post_two rfl rfl rfl ?_ (.inr rfl)
            exact ⟨⟨_, _, rfl, by rw [if_pos rfl, numF_yes ⟨by omega, by omega⟩ (fun j hj => hd j (by omega)), hs, List.take_of_length_le (by omega)]⟩, X8⟩
      · -- false
        have c5_ : decide ((t.getD 0 0) = 48) = false := decide_eq_false c5
        rw [c5_]
        refine AL.off rfl rfl (by decide) rfl ?_
        refine AL.off rfl rfl (by decide) rfl ?_
        refine AL.off rfl rfl (by decide) rfl ?_
        refine AL.val rfl (.inr ⟨_, _, _, rfl, rfl, rfl⟩) (HV.pickF rfl rfl) ?_
        refine AL.val rfl (.inl rfl) (HV.pickF rfl rfl) ?_
        refine AL.nx ?_
        refine AW.cond rfl (fun h => by cases h) (fun _ => ?_)
        refine AW.skip ?_
        refine nrm_and ?_
        refine AW.rs ?_
        refine AL.val rfl (.inl rfl) (HV.as rfl) ?_
        refine AL.nx ?_
        refine AW.seq ?_
        refine AW.rs ?_
        refine AL.val rfl (.inl rfl) (HV.as rfl) ?_
        refine AL.nx ?_
        refine AW.block ?_
        refine AW.loop (σ := Nat × Int) (fun ⟨i, s⟩ => [(0, .string (bytesOf t)), (4, .int .i64 s), (5, .int .i64 (i : Int))]) (fun ⟨i, s⟩ H' => Ext H H' ∧ i ≤ t.length ∧ s = foldN (t.take i) ∧ (0 ≤ s ∧ s < ((10 ^ i : Nat) : Int)) ∧ (∀ j, j < i → 48 ≤ t.getD j 0 ∧ t.getD j 0 ≤ 57) ∧ True) (fun ⟨i, s⟩ => t.length - i) (0, 0) ⟨X0, Nat.zero_le _, rfl, by decide, fun j hj => absurd hj (Nat.not_lt_zero _), trivial⟩ ⟨rfl, rfl, rfl, trivial⟩ ?_
        rintro ⟨i, s⟩ H14 ⟨X15, hi, hs, hs2, hd, _⟩
        have hgi := isB_at hb i
        have h10 := fun h : i ≤ 8 => ten9 h
        refine AW.seq ?_
        refine AW.rs ?_
        refine AL.val rfl (.inl rfl) (HV.mv rfl) ?_
        refine AL.val rfl (.inl rfl) (HV.mv rfl) ?_
        refine AL.val rfl (.inl rfl) (HV.lenB Tryd.underlying9 rfl) ?_
        refine AL.val rfl (.inl rfl) (HV.lti rfl rfl) ?_
        refine AL.nx ?_
        refine AW.ifd rfl (fun c16 => ?_) (fun c16 => ?_)
        · -- then
          refine AW.skip ?_
          refine nrm_and ?_
          refine AW.seq ?_
          refine AW.block ?_
          refine AW.seq ?_
          refine AW.rs ?_
          refine AL.val rfl (.inl rfl) (HV.mv rfl) ?_
          refine AL.val rfl (.inl rfl) (HV.mv rfl) ?_
          refine AL.val rfl (.inl rfl) (HV.ixB (n := i) hb Tryd.underlying9 rfl rfl rfl (by omega)) ?_
          refine AL.val rfl (.inl rfl) (HV.lti rfl rfl) ?_
          refine AL.val rfl (.inl rfl) (HV.mv rfl) ?_
          by_cases c17 : (t.getD i 0) < 48
          · -- true
            have c17_ : decide ((t.getD i 0) < 48) = true := decide_eq_true c17
            rw [c17_]
            refine AL.off rfl rfl (by decide) rfl ?_
            refine AL.off rfl rfl (by decide) rfl ?_
            refine AL.off rfl rfl (by decide) rfl ?_
            refine AL.off rfl rfl (by decide) rfl ?_
            refine AL.val rfl (.inl rfl) (HV.pickT rfl rfl) ?_
            refine AL.nx ?_
            refine AW.cond rfl (fun _ => ?_) (fun h => by cases h)
            refine AW.rs ?_
            refine AL.val rfl (.inl rfl) (HV.as rfl) ?_
            refine AL.val rfl (.inl rfl) (HV.as rfl) ?_
            refine AL.nx ?_
            refine AW.ret ?_
            refine ret_and (ret_blk (ret_and (ret_and (ret_blk (ret_and ?_)))))
            refine post_two rfl rfl rfl ?_ (.inr rfl)
            exact ⟨⟨_, _, rfl, by rw [if_neg (by decide)]; exact numF_bad (i := i) (by omega) (by omega)⟩, X15⟩
          · -- false
            have c17_ : decide ((t.getD i 0) < 48) = false := decide_eq_false c17
            rw [c17_]
            refine AL.val rfl (.inr ⟨_, _, _, rfl, rfl, rfl⟩) (HV.mv rfl) ?_
            refine AL.val rfl (.inr ⟨_, _, _, rfl, rfl, rfl⟩) (HV.mv rfl) ?_
            refine AL.val rfl (.inr ⟨_, _, _, rfl, rfl, rfl⟩) (HV.ixB (n := i) hb Tryd.underlying9 rfl rfl rfl (by omega)) ?_
            refine AL.val rfl (.inr ⟨_, _, _, rfl, rfl, rfl⟩) (HV.gti rfl rfl) ?_
            refine AL.val rfl (.inl rfl) (HV.pickF rfl rfl) ?_
            refine AL.nx ?_
            refine AW.ifd rfl (fun c19 => ?_) (fun c19 => ?_)
            · -- then
              refine AW.rs ?_
              refine AL.val rfl (.inl rfl) (HV.as rfl) ?_
              refine AL.val rfl (.inl rfl) (HV.as rfl) ?_
              refine AL.nx ?_
              refine AW.ret ?_
              refine ret_and (ret_blk (ret_and (ret_and (ret_blk (ret_and ?_)))))
              refine post_two rfl rfl rfl ?_ (.inr rfl)
              exact ⟨⟨_, _, rfl, by rw [if_neg (by decide)]; exact numF_bad (i := i) (by omega) (by omega)⟩, X15⟩
            · -- else
              refine AW.skip ?_
              refine nrm_and ?_
              refine AW.reg ?_
              refine AL.val rfl (.inl rfl) (HV.mv rfl) ?_
              refine AL.val rfl (.inl rfl) (HV.mul rfl rfl (by have := h10 (by omega); omega)) ?_
              refine AL.val rfl (.inl rfl) (HV.mv rfl) ?_
              refine AL.val rfl (.inl rfl) (HV.mv rfl) ?_
              refine AL.val rfl (.inl rfl) (HV.ixB (n := i) hb Tryd.underlying9 rfl rfl rfl (by omega)) ?_
              refine AL.val rfl (.inl rfl) (HV.subw rfl rfl) ?_
              have hwr := u8_id (a := t.getD i 0 - 48) ⟨by omega, by omega⟩
              refine AL.val rfl (.inl rfl) (HV.cve (by rw [Tryd.underlying5]; rfl) Tryd.underlying2 rfl (i64_u8 (by omega))) ?_
              refine AL.val rfl (.inl rfl) (HV.add rfl rfl (by have := h10 (by omega); omega)) ?_
              refine AL.val rfl (.inl rfl) (HV.as rfl) ?_
              refine AL.nil ?_
              refine nrm_blk (nrm_and ?_)
              refine AW.reg ?_
              refine AL.val rfl (.inl rfl) (HV.mv rfl) ?_
              refine AL.val rfl (.inl rfl) (HV.add rfl rfl (by omega)) ?_
              refine AL.val rfl (.inl rfl) (HV.as rfl) ?_
              refine AL.nil ?_
              refine nrm_and ?_
              exact ⟨(i + 1, (s * 10) + (IntKind.u8.wrap ((t.getD i 0) - 48))), ⟨X15, by omega, by rw [foldN_snoc (by omega), ← hs, hwr], by have h1 := h10 (by omega); rw [Nat.pow_succ]; omega, fun j hj => by
      rcases Nat.lt_or_ge j i with h1 | h1
      · exact hd j h1
      · obtain rfl : j = i := by omega
        omega, trivial⟩, by first | omega | (dsimp only; omega), ⟨rfl, rfl, rfl, trivial⟩⟩
        · -- else
          refine AW.exit ?_
          refine ex_and (ex_and (ex_blk ?_))
          refine nrm_and ?_
          refine AW.rs ?_
          refine AL.val rfl (.inl rfl) (HV.mv rfl) ?_
          refine AL.val rfl (.inl rfl) (HV.as rfl) ?_
          refine AL.val rfl (.inl rfl) (HV.as rfl) ?_
          refine AL.nx ?_
          refine AW.ret ?_
          refine post_two rfl rfl rfl ?_ (.inr rfl)
          exact ⟨⟨_, _, rfl, by rw [if_pos rfl, numF_yes ⟨by omega, by omega⟩ (fun j hj => hd j (by omega)), hs, List.take_of_length_le (by omega)]⟩, X15⟩

set_option maxRecDepth 100000 in
theorem split_ok {t : List Int} {c : Int} (hb : isB t) (hl : t.length ≤ 4000) : ACalls Tryd.prog W 9 #[.string (bytesOf t), .int .u8 c] H (fun r H' => Ext H H' ∧ OwnK kSb 9 W H' (fun b => H.bd ≤ b) r (spI c t)) := by
  refine ACalls.of (args := [.string (bytesOf t), .int .u8 c]) Tryd.func9 rfl rfl ?_
  have X0 := Ext.refl H
  refine AW.rs ?_
  refine AL.val rfl (.inl rfl) (HV.as rfl) ?_
  refine AL.nx ?_
  refine AW.rs ?_
  have o1 := X0.bd
  refine AL.w rfl (.inl rfl) (WV.bsK (K := kS) (l := ([] : List ByteArray)) (css := []) sl33 rfl rfl (by first | rfl | (simp [Instr.fill, Value.cells, kI, kB, kU, kU8, kS, Kd.sc]; done) | (simp [Instr.fill, Value.cells, kI, kB, kU, kU8, kS, Kd.sc, rng1, rng2, rng3, rng4, kP])) rfl segs_nil) ?_
  rintro v2 H3 ⟨hx4, ho5⟩
  have X6 := Ext.trans X0 hx4
  refine AL.val rfl (.inl rfl) (HV.as rfl) ?_
  refine AL.nx ?_
  refine AW.rs ?_
  refine AL.val rfl (.inl rfl) (HV.as rfl) ?_
  refine AL.nx ?_
  refine AW.seq ?_
  refine AW.rs ?_
  refine AL.val rfl (.inl rfl) (HV.as rfl) ?_
  refine AL.nx ?_
  refine AW.block ?_
  refine AW.loop (σ := Nat × Nat × Value × List (List Int)) (fun ⟨i, fr, vv, k⟩ => [(0, .string (bytesOf t)), (1, .int .u8 c), (4, (.slice none 0 0)), (5, vv), (6, .int .i64 (fr : Int)), (7, .int .i64 (i : Int))]) (fun ⟨i, fr, vv, k⟩ H' => Ext H H' ∧ i ≤ t.length ∧ fr ≤ i ∧ k.length ≤ i ∧ spI c t = k ++ ((t.take i).drop fr ++ (spI c (t.drop i)).headD []) :: (spI c (t.drop i)).tail ∧ OwnK kS 9 W H' (fun b => H.bd ≤ b) vv (k.map bytesOf) ∧ True) (fun ⟨i, fr, vv, k⟩ => t.length - i) (0, 0, v2, []) ⟨X6, Nat.zero_le _, Nat.le_refl _, Nat.le_refl _, sp_start c t, ho5, trivial⟩ ⟨rfl, rfl, rfl, rfl, rfl, rfl, trivial⟩ ?_
  rintro ⟨i, fr, vv, k⟩ H8 ⟨X9, hi, hf, hkl, hk, hoL, _⟩
  refine AW.seq ?_
  refine AW.rs ?_
  refine AL.val rfl (.inl rfl) (HV.mv rfl) ?_
  refine AL.val rfl (.inl rfl) (HV.mv rfl) ?_
  refine AL.val rfl (.inl rfl) (HV.lenB Tryd.underlying9 rfl) ?_
  refine AL.val rfl (.inl rfl) (HV.lti rfl rfl) ?_
  refine AL.nx ?_
  refine AW.ifd rfl (fun c10 => ?_) (fun c10 => ?_)
  · -- then
    refine AW.skip ?_
    refine nrm_and ?_
    refine AW.seq ?_
    refine AW.block ?_
    refine AW.rs ?_
    refine AL.val rfl (.inl rfl) (HV.mv rfl) ?_
    refine AL.val rfl (.inl rfl) (HV.mv rfl) ?_
    refine AL.val rfl (.inl rfl) (HV.ixB (n := i) hb Tryd.underlying9 rfl rfl rfl (by omega)) ?_
    refine AL.val rfl (.inl rfl) (HV.mv rfl) ?_
    refine AL.val rfl (.inl rfl) (HV.eqi rfl rfl) ?_
    refine AL.nx ?_
    refine AW.ifd rfl (fun c11 => ?_) (fun c11 => ?_)
    · -- then
      refine AW.rs ?_
      refine AL.val rfl (.inl rfl) (HV.mv rfl) ?_
      refine AL.val rfl (.inl rfl) (HV.mv rfl) ?_
      refine AL.val rfl (.inl rfl) (HV.mv rfl) ?_
      refine AL.val rfl (.inl rfl) (HV.mv rfl) ?_
      refine AL.val rfl (.inl rfl) (HV.slBn (m := fr) (n := i) Tryd.underlying9 rfl rfl rfl rfl rfl (by omega) (by omega)) ?_
      have X12 := Ext.refl H8
      have o13 := X9.bd
      have o14 := X12.bd
      have a15 := hoL.ltb
      refine AL.w rfl (.inl rfl) (WV.bsK (K := kS) (l := ([(bytesOf ((t.take i).drop fr))] : List ByteArray)) (css := [[.string (bytesOf ((t.take i).drop fr))]]) sl33 rfl rfl (by first | rfl | (simp [Instr.fill, Value.cells, kI, kB, kU, kU8, kS, Kd.sc]; done) | (simp [Instr.fill, Value.cells, kI, kB, kU, kU8, kS, Kd.sc, rng1, rng2, rng3, rng4, kP])) rfl (segs_cons rfl segs_nil)) ?_
      rintro v16 H17 ⟨hx18, ho19⟩
      have X20 := Ext.trans X9 hx18
      have X21 := Ext.trans X12 hx18
      have ho22 := hoL.ext hx18
      have X24 := Ext.refl H17
      refine AL.w rfl (.inl rfl) (WV.apk sl33 rfl rfl ho22 ho19.rd (by simp; omega) (by simp; omega) (fun b hb _ e => Nat.lt_irrefl _ (Nat.lt_of_lt_of_le (a15 b e) hb))) ?_
      rintro v25 H26 ⟨hx27, ho28, hb29⟩
      have ho30 := ho28.narrow (ok' := fun b => H.bd ≤ b) kS_flat (fun b q => (hb29 b q).elim (fun e => (ho22.blk b e).1) (fun e => Nat.le_trans X20.bd e))
      have X31 := Ext.thru X20 hx27 (fun b hb => Nat.le_trans o1 (ho22.blk b hb).1)
      refine AL.val rfl (.inl rfl) (HV.as rfl) ?_
      refine AL.nx ?_
      refine AW.reg ?_
      refine AL.val rfl (.inl rfl) (HV.mv rfl) ?_
      refine AL.val rfl (.inl rfl) (HV.add rfl rfl (by omega)) ?_
      refine AL.val rfl (.inl rfl) (HV.as rfl) ?_
      refine AL.nil ?_
      refine nrm_blk (nrm_and ?_)
      refine AW.reg ?_
      refine AL.val rfl (.inl rfl) (HV.mv rfl) ?_
      refine AL.val rfl (.inl rfl) (HV.add rfl rfl (by omega)) ?_
      refine AL.val rfl (.inl rfl) (HV.as rfl) ?_
      refine AL.nil ?_
      refine nrm_and ?_
      exact ⟨(i + 1, i + 1, v25, k ++ [(t.take i).drop fr]), ⟨X31, by omega, by omega, by simp; omega, sp_hit (by omega) (by assumption) hk, by rw [List.map_append]; exact ho30, trivial⟩, by first | omega | (dsimp only; omega), ⟨rfl, rfl, rfl, rfl, rfl, rfl, trivial⟩⟩
    · -- else
      refine AW.skip ?_
      refine nrm_blk (nrm_and ?_)
      refine AW.reg ?_
      refine AL.val rfl (.inl rfl) (HV.mv rfl) ?_
      refine AL.val rfl (.inl rfl) (HV.add rfl rfl (by omega)) ?_
      refine AL.val rfl (.inl rfl) (HV.as rfl) ?_
      refine AL.nil ?_
      refine nrm_and ?_
      exact ⟨(i + 1, fr, vv, k), ⟨X9, by omega, by omega, by omega, sp_miss (by omega) (by omega) (by assumption) hk, hoL, trivial⟩, by first | omega | (dsimp only; omega), ⟨rfl, rfl, rfl, rfl, rfl, rfl, trivial⟩⟩
  · -- else
    refine AW.exit ?_
    refine ex_and (ex_and (ex_blk ?_))
    refine nrm_and ?_
    refine AW.rs ?_
    refine AL.val rfl (.inl rfl) (HV.mv rfl) ?_
    refine AL.val rfl (.inl rfl) (HV.mv rfl) ?_
    refine AL.val rfl (.inl rfl) (HV.mv rfl) ?_
    refine AL.val rfl (.inl rfl) (HV.sllBn (m := fr) Tryd.underlying9 rfl rfl rfl (by omega)) ?_
    have X35 := Ext.refl H8
    have o36 := X9.bd
    have o37 := X35.bd
    have a38 := hoL.ltb
    refine AL.w rfl (.inl rfl) (WV.bsK (K := kS) (l := ([(bytesOf (t.drop fr))] : List ByteArray)) (css := [[.string (bytesOf (t.drop fr))]]) sl33 rfl rfl (by first | rfl | (simp [Instr.fill, Value.cells, kI, kB, kU, kU8, kS, Kd.sc]; done) | (simp [Instr.fill, Value.cells, kI, kB, kU, kU8, kS, Kd.sc, rng1, rng2, rng3, rng4, kP])) rfl (segs_cons rfl segs_nil)) ?_
    rintro v39 H40 ⟨hx41, ho42⟩
    have X43 := Ext.trans X9 hx41
    have X44 := Ext.trans X35 hx41
    have ho45 := hoL.ext hx41
    have X47 := Ext.refl H40
    refine AL.w rfl (.inl rfl) (WV.apk sl33 rfl rfl ho45 ho42.rd (by simp; omega) (by simp; omega) (fun b hb _ e => Nat.lt_irrefl _ (Nat.lt_of_lt_of_le (a38 b e) hb))) ?_
    rintro v48 H49 ⟨hx50, ho51, hb52⟩
    have ho53 := ho51.narrow (ok' := fun b => H.bd ≤ b) kS_flat (fun b q => (hb52 b q).elim (fun e => (ho45.blk b e).1) (fun e => Nat.le_trans X43.bd e))
    have X54 := Ext.thru X43 hx50 (fun b hb => Nat.le_trans o1 (ho45.blk b hb).1)
    refine AL.val rfl (.inl rfl) (HV.as rfl) ?_
    refine AL.nx ?_
    refine AW.ret ?_
    refine post_one rfl rfl ?_ (.inr rfl)
    exact ⟨X54, by have q := OwnK.sb (l := k ++ [t.drop fr]) (by rw [List.map_append]; exact ho53.okk (fun b hb _ => Nat.le_trans o1 hb)) (fun p hp => by rw [← sp_end (by omega) hk] at hp; exact sp_isB hb p hp); rw [← sp_end (by omega) hk] at q; exact q⟩

set_option maxRecDepth 100000 in
theorem nums_ok {v : Value} {l : List (List Int)} {ok : Nat → Prop} {f : Nat} {q : Int} (hr : RdK kSb W H ok v l) (hq : q = (f : Int)) (hl : l.length ≤ 4001 ∧ ∀ p ∈ l, p.length ≤ 4000) : ACalls Tryd.prog W 10 #[v, .int .i64 q] H (fun r H' => (∃ v2 k b, r = .tuple #[v2, .bool b] ∧ OwnK kI 2 W H' (fun b => H.bd ≤ b) v2 k ∧ mm numF (l.drop f) = (if b = true then some k else none)) ∧ Ext H H') := by
  refine ACalls.of (args := [v, .int .i64 q]) Tryd.func10 rfl rfl ?_
  have X0 := Ext.refl H
  have hm1 := hr.max
  refine AW.rs ?_
  refine AL.val rfl (.inl rfl) (HV.as rfl) ?_
  refine AL.val rfl (.inl rfl) (HV.as rfl) ?_
  refine AL.nx ?_
  refine AW.rs ?_
  have o2 := X0.bd
  refine AL.w rfl (.inl rfl) (WV.bsK (K := kI) (l := ([] : List Int)) (css := []) sl22 rfl rfl (by first | rfl | (simp [Instr.fill, Value.cells, kI, kB, kU, kU8, kS, Kd.sc]; done) | (simp [Instr.fill, Value.cells, kI, kB, kU, kU8, kS, Kd.sc, rng1, rng2, rng3, rng4, kP])) rfl segs_nil) ?_
  rintro v3 H4 ⟨hx5, ho6⟩
  have X7 := Ext.trans X0 hx5
  refine AL.val rfl (.inl rfl) (HV.as rfl) ?_
  refine AL.nx ?_
  refine AW.seq ?_
  refine AW.rs ?_
  refine AL.val rfl (.inl rfl) (HV.mv rfl) ?_
  refine AL.val rfl (.inl rfl) (HV.as rfl) ?_
  refine AL.nx ?_
  refine AW.block ?_
  refine AW.loop (σ := Nat × Value × List Int × Int) (fun ⟨j, vv, k, x⟩ => [(0, v), (6, vv), (7, .int .i64 x)]) (fun ⟨j, vv, k, x⟩ H' => Ext H H' ∧ x = (f : Int) + (j : Int) ∧ (j = 0 ∨ f + j ≤ l.length) ∧ mm numF ((l.drop f).take j) = some k ∧ k.length = j ∧ OwnK kI 2 W H' (fun b => H.bd ≤ b) vv k ∧ True) (fun ⟨j, vv, k, x⟩ => l.length - (f + j)) (0, v3, [], q) ⟨X7, by omega, .inl rfl, rfl, rfl, ho6, trivial⟩ ⟨rfl, rfl, rfl, trivial⟩ ?_
  rintro ⟨j, vv, k, x⟩ H9 ⟨X10, hx_, hj, hk, hkl, hoL, _⟩
  refine AW.seq ?_
  refine AW.rs ?_
  refine AL.val rfl (.inl rfl) (HV.mv rfl) ?_
  refine AL.val rfl (.inl rfl) (HV.mv rfl) ?_
  refine AL.val rfl (.inl rfl) (HV.len Tryd.underlying33 rfl hr.isSl) ?_
  refine AL.val rfl (.inl rfl) (HV.lti rfl rfl) ?_
  refine AL.nx ?_
  refine AW.ifd rfl (fun c11 => ?_) (fun c11 => ?_)
  · -- then
    refine AW.skip ?_
    refine nrm_and ?_
    refine AW.seq ?_
    refine AW.block ?_
    refine AW.rs ?_
    refine AL.val rfl (.inl rfl) (HV.mv rfl) ?_
    refine AL.val rfl (.inl rfl) (HV.mv rfl) ?_
    obtain ⟨p12, z13, cs14, hz15, hK16, hC17, hP18⟩ := RdK.ix (q := x) hr sl33 (by omega) (by omega)
    obtain ⟨rfl, hB19⟩ := hK16
    refine AL.val rfl (.inl rfl) (hP18 rfl rfl) ?_
    refine AL.val rfl (.inl rfl) (HV.ld rfl va9 (cells_first (hC17.ext X10) rfl)) ?_
    have hzl := hl.2 _ (List.mem_of_getElem? hz15)
    refine AL.w rfl (.inl rfl) (WV.call fn22 rfl (num_ok hB19 (by omega))) ?_
    rintro _ H20 ⟨⟨v21, b22, rfl, hn23⟩, hx24⟩
    have X25 := Ext.trans X10 hx24
    have ho26 := hoL.ext hx24
    refine AL.val rfl (.inl rfl) (HV.mv rfl) ?_
    refine AL.val rfl (.inl rfl) (HV.ex rfl rfl) ?_
    refine AL.val rfl (.inl rfl) (HV.ex rfl rfl) ?_
    refine AL.val rfl (.inl rfl) (HV.as rfl) ?_
    refine AL.val rfl (.inl rfl) (HV.as rfl) ?_
    refine AL.nx ?_
    refine AW.seq ?_
    refine AW.rs ?_
    refine AL.val rfl (.inl rfl) (HV.mv rfl) ?_
    refine AL.val rfl (.inl rfl) (HV.not rfl) ?_
    refine AL.nx ?_
    refine AW.cond rfl (fun c27 => ?_) (fun c27 => ?_)
    · -- then
      refine AW.rs ?_
      refine AL.val rfl (.inl rfl) (HV.mv rfl) ?_
      refine AL.val rfl (.inl rfl) (HV.as rfl) ?_
      refine AL.val rfl (.inl rfl) (HV.as rfl) ?_
      refine AL.nx ?_
      refine AW.ret ?_
      refine ret_and (ret_blk (ret_and (ret_and (ret_blk (ret_and ?_)))))
      refine post_two rfl rfl rfl ?_ (.inr rfl)
      exact ⟨⟨_, _, _, rfl, ho26.okk (fun b hb _ => Nat.le_trans o2 hb), by rw [if_neg (by decide)]; exact mm_none (i := j) (z := z13) (by rw [List.getElem?_drop]; exact getq hz15 (by omega)) (by have hb_ : b22 = false := (by simpa using c27); rw [hn23, hb_]; rfl)⟩, X25⟩
    · -- else
      refine AW.skip ?_
      refine nrm_and ?_
      refine AW.reg ?_
      refine AL.val rfl (.inl rfl) (HV.mv rfl) ?_
      refine AL.val rfl (.inl rfl) (HV.mv rfl) ?_
      have X28 := Ext.refl H20
      have o29 := X25.bd
      have o30 := X28.bd
      have a31 := ho26.ltb
      refine AL.w rfl (.inl rfl) (WV.bsK (K := kI) (l := ([v21] : List Int)) (css := [[.int .i64 v21]]) sl22 rfl rfl (by first | rfl | (simp [Instr.fill, Value.cells, kI, kB, kU, kU8, kS, Kd.sc]; done) | (simp [Instr.fill, Value.cells, kI, kB, kU, kU8, kS, Kd.sc, rng1, rng2, rng3, rng4, kP])) rfl (segs_cons rfl segs_nil)) ?_
      rintro v32 H33 ⟨hx34, ho35⟩
      have X36 := Ext.trans X25 hx34
      have X37 := Ext.trans X28 hx34
      have ho38 := ho26.ext hx34
      have X40 := Ext.refl H33
      refine AL.w rfl (.inl rfl) (WV.apk sl22 rfl rfl ho38 ho35.rd (by rw [hkl]; simp; omega) (by rw [hkl]; simp; omega) (fun b hb _ e => Nat.lt_irrefl _ (Nat.lt_of_lt_of_le (a31 b e) hb))) ?_
      rintro v41 H42 ⟨hx43, ho44, hb45⟩
      have ho46 := ho44.narrow (ok' := fun b => H.bd ≤ b) kI_flat (fun b q => (hb45 b q).elim (fun e => (ho38.blk b e).1) (fun e => Nat.le_trans X36.bd e))
      have X47 := Ext.thru X36 hx43 (fun b hb => Nat.le_trans o2 (ho38.blk b hb).1)
      refine AL.val rfl (.inl rfl) (HV.as rfl) ?_
      refine AL.nil ?_
      refine nrm_blk (nrm_and ?_)
      refine AW.reg ?_
      refine AL.val rfl (.inl rfl) (HV.mv rfl) ?_
      refine AL.val rfl (.inl rfl) (HV.add rfl rfl (by omega)) ?_
      refine AL.val rfl (.inl rfl) (HV.as rfl) ?_
      refine AL.nil ?_
      refine nrm_and ?_
      exact ⟨(j + 1, v41, (k ++ (([v21] : List Int) : List Int)), x + 1), ⟨X47, by omega, .inr (by omega), mm_take hk (by rw [List.getElem?_drop]; exact getq hz15 (by omega)) (by have hb_ : b22 = true := (by simpa using c27); rw [hn23, hb_]; rfl), by simp; omega, ho46, trivial⟩, by first | omega | (dsimp only; omega), ⟨rfl, rfl, rfl, trivial⟩⟩
  · -- else
    refine AW.exit ?_
    refine ex_and (ex_and (ex_blk ?_))
    refine nrm_and ?_
    refine AW.rs ?_
    refine AL.val rfl (.inl rfl) (HV.mv rfl) ?_
    refine AL.val rfl (.inl rfl) (HV.as rfl) ?_
    refine AL.val rfl (.inl rfl) (HV.as rfl) ?_
    refine AL.nx ?_
    refine AW.ret ?_
    refine post_two rfl rfl rfl ?_ (.inr rfl)
    exact ⟨⟨_, k, _, rfl, hoL.okk (fun b hb _ => Nat.le_trans o2 hb), by rw [if_pos rfl, ← hk, List.take_of_length_le (by rw [List.length_drop]; omega)]⟩, X10⟩

set_option maxRecDepth 100000 in
theorem read_ok {t : List Int} (hb : isB t) (h1 : t.length = 1) : ACalls Tryd.prog W 11 #[.string (bytesOf t)] H (fun r H' => (∃ v k b, r = .tuple #[v, .bool b] ∧ OwnK kI 2 W H' (fun b => H.bd ≤ b) v k ∧ ((b = true ∧ k.length = 1) ↔ (65 ≤ t.getD 0 0 ∧ t.getD 0 0 ≤ 71)) ∧ (k.length = 1 → k = [t.getD 0 0 - 65])) ∧ Ext H H') := by
  refine ACalls.of (args := [.string (bytesOf t)]) Tryd.func11 rfl rfl ?_
  have X0 := Ext.refl H
  refine AW.rs ?_
  refine AL.val rfl (.inl rfl) (HV.as rfl) ?_
  refine AL.val rfl (.inl rfl) (HV.as rfl) ?_
  refine AL.nx ?_
  refine AW.rs ?_
  have o1 := X0.bd
  refine AL.w rfl (.inl rfl) (WV.bsK (K := kI) (l := ([] : List Int)) (css := []) sl22 rfl rfl (by first | rfl | (simp [Instr.fill, Value.cells, kI, kB, kU, kU8, kS, Kd.sc]; done) | (simp [Instr.fill, Value.cells, kI, kB, kU, kU8, kS, Kd.sc, rng1, rng2, rng3, rng4, kP])) rfl segs_nil) ?_
  rintro v2 H3 ⟨hx4, ho5⟩
  have X6 := Ext.trans X0 hx4
  refine AL.val rfl (.inl rfl) (HV.as rfl) ?_
  refine AL.nx ?_
  refine AW.seq ?_
  refine AW.rs ?_
  refine AL.val rfl (.inl rfl) (HV.mv rfl) ?_
  refine AL.val rfl (.inl rfl) (HV.eqB (a := t) (b := [45]) hb (show ∀ x ∈ ([45] : List Int), 0 ≤ x ∧ x ≤ 255 by decide) rfl rfl) ?_
  refine AL.nx ?_
  refine AW.ifd rfl (fun c8 => ?_) (fun c8 => ?_)
  · -- then
    refine AW.rs ?_
    refine AL.val rfl (.inl rfl) (HV.mv rfl) ?_
    refine AL.val rfl (.inl rfl) (HV.as rfl) ?_
    refine AL.val rfl (.inl rfl) (HV.as rfl) ?_
    refine AL.nx ?_
    refine AW.ret ?_
    refine ret_and ?_
    refine post_two rfl rfl rfl ?_ (.inr rfl)
    exact ⟨⟨_, [], _, rfl, ho5.okk (fun b hb _ => Nat.le_trans o1 hb), ⟨fun q => by have := q.2; simp at this, fun q => by have e : t = [45] := (by assumption); rw [e] at q; simp at q⟩, fun q => by simp at q⟩, X6⟩
  · -- else
    refine AW.skip ?_
    refine nrm_and ?_
    refine AW.seq ?_
    refine AW.rs ?_
    refine AL.val rfl (.inl rfl) (HV.as rfl) ?_
    refine AL.nx ?_
    refine AW.block ?_
    refine AW.loop (σ := Nat × Value × List Int) (fun ⟨i, vv, k⟩ => [(0, .string (bytesOf t)), (2, (.slice none 0 0)), (3, .bool false), (4, vv), (5, .int .i64 (i : Int))]) (fun ⟨i, vv, k⟩ H' => Ext H H' ∧ i ≤ t.length ∧ k = (t.take i).map (fun z => z - 65) ∧ k.length = i ∧ OwnK kI 2 W H' (fun b => H.bd ≤ b) vv k ∧ True) (fun ⟨i, vv, k⟩ => t.length - i) (0, v2, []) ⟨X6, Nat.zero_le _, rfl, rfl, ho5, trivial⟩ ⟨rfl, rfl, rfl, rfl, rfl, trivial⟩ ?_
    rintro ⟨i, vv, k⟩ H9 ⟨X10, hi, hk, hkl, hoL, _⟩
    have hgi := isB_at hb i
    refine AW.seq ?_
    refine AW.rs ?_
    refine AL.val rfl (.inl rfl) (HV.mv rfl) ?_
    refine AL.val rfl (.inl rfl) (HV.mv rfl) ?_
    refine AL.val rfl (.inl rfl) (HV.lenB Tryd.underlying9 rfl) ?_
    refine AL.val rfl (.inl rfl) (HV.lti rfl rfl) ?_
    refine AL.nx ?_
    refine AW.ifd rfl (fun c11 => ?_) (fun c11 => ?_)
    · -- then
      refine AW.skip ?_
      refine nrm_and ?_
      refine AW.seq ?_
      refine AW.block ?_
      refine AW.reg ?_
      refine AL.val rfl (.inl rfl) (HV.mv rfl) ?_
      refine AL.val rfl (.inl rfl) (HV.mv rfl) ?_
      refine AL.val rfl (.inl rfl) (HV.mv rfl) ?_
      refine AL.val rfl (.inl rfl) (HV.ixB (n := i) hb Tryd.underlying9 rfl rfl rfl (by omega)) ?_
      refine AL.val rfl (.inl rfl) (HV.cve (by rw [Tryd.underlying5]; rfl) Tryd.underlying2 rfl (i64_u8 (by omega))) ?_
      refine AL.val rfl (.inl rfl) (HV.sub rfl rfl (by omega)) ?_
      have X12 := Ext.refl H9
      have o13 := X10.bd
      have o14 := X12.bd
      have a15 := hoL.ltb
      refine AL.w rfl (.inl rfl) (WV.bsK (K := kI) (l := ([(t.getD i 0) - 65] : List Int)) (css := [[.int .i64 ((t.getD i 0) - 65)]]) sl22 rfl rfl (by first | rfl | (simp [Instr.fill, Value.cells, kI, kB, kU, kU8, kS, Kd.sc]; done) | (simp [Instr.fill, Value.cells, kI, kB, kU, kU8, kS, Kd.sc, rng1, rng2, rng3, rng4, kP])) rfl (segs_cons rfl segs_nil)) ?_
      rintro v16 H17 ⟨hx18, ho19⟩
      have X20 := Ext.trans X10 hx18
      have X21 := Ext.trans X12 hx18
      have ho22 := hoL.ext hx18
      have X24 := Ext.refl H17
      refine AL.w rfl (.inl rfl) (WV.apk sl22 rfl rfl ho22 ho19.rd (by rw [hkl]; simp; omega) (by rw [hkl]; simp; omega) (fun b hb _ e => Nat.lt_irrefl _ (Nat.lt_of_lt_of_le (a15 b e) hb))) ?_
      rintro v25 H26 ⟨hx27, ho28, hb29⟩
      have ho30 := ho28.narrow (ok' := fun b => H.bd ≤ b) kI_flat (fun b q => (hb29 b q).elim (fun e => (ho22.blk b e).1) (fun e => Nat.le_trans X20.bd e))
      have X31 := Ext.thru X20 hx27 (fun b hb => Nat.le_trans o1 (ho22.blk b hb).1)
      refine AL.val rfl (.inl rfl) (HV.as rfl) ?_
      refine AL.nil ?_
      refine nrm_blk (nrm_and ?_)
      refine AW.reg ?_
      refine AL.val rfl (.inl rfl) (HV.mv rfl) ?_
      refine AL.val rfl (.inl rfl) (HV.add rfl rfl (by omega)) ?_
      refine AL.val rfl (.inl rfl) (HV.as rfl) ?_
      refine AL.nil ?_
      refine nrm_and ?_
      exact ⟨(i + 1, v25, (k ++ (([(t.getD i 0) - 65] : List Int) : List Int))), ⟨X31, by omega, by rw [hk]; exact map_take1 (by omega), by simp; omega, ho30, trivial⟩, by first | omega | (dsimp only; omega), ⟨rfl, rfl, rfl, rfl, rfl, trivial⟩⟩
    · -- else
      refine AW.exit ?_
      refine ex_and (ex_and (ex_blk ?_))
      refine nrm_and ?_
      refine AW.rs ?_
      refine AL.val rfl (.inl rfl) (HV.mv rfl) ?_
      refine AL.val rfl (.inl rfl) (HV.mv rfl) ?_
      refine AL.val rfl (.inl rfl) (HV.lenB Tryd.underlying9 rfl) ?_
      refine AL.val rfl (.inl rfl) (HV.gti rfl rfl) ?_
      refine AL.val rfl (.inl rfl) (HV.mv rfl) ?_
      by_cases c35 : (t.length : Int) > 0
      · -- true
        have c35_ : decide ((t.length : Int) > 0) = true := decide_eq_true c35
        rw [c35_]
        refine AL.val rfl (.inr ⟨_, _, _, rfl, rfl, rfl⟩) (HV.mv rfl) ?_
        refine AL.w rfl (.inr ⟨_, _, _, rfl, rfl, rfl⟩) (WV.call fn23 rfl (l01Group_ok 7 hoL.rd (by omega))) ?_
        rintro _ H36 ⟨rfl, hx37⟩
        have X38 := Ext.trans X10 hx37
        have ho39 := hoL.ext hx37
        refine AL.val rfl (.inl rfl) (HV.pickT rfl rfl) ?_
        refine AL.val rfl (.inl rfl) (HV.as rfl) ?_
        refine AL.val rfl (.inl rfl) (HV.as rfl) ?_
        refine AL.nx ?_
        refine AW.ret ?_
        refine post_two rfl rfl rfl ?_ (.inr rfl)
        have hk1 : k = [t.getD 0 0 - 65] := (by rw [hk, show i = 1 by omega]; exact rd_one h1); exact ⟨⟨_, k, _, rfl, ho39.okk (fun b hb _ => Nat.le_trans o1 hb), by rw [hk1]; simp only [List.length_singleton, and_true, decide_eq_true_eq]; rw [ris_iff1]; omega, fun _ => hk1⟩, X38⟩
      · -- false
        have c35_ : decide ((t.length : Int) > 0) = false := decide_eq_false c35
        rw [c35_]
        refine AL.off rfl rfl (by decide) rfl ?_
        refine AL.off rfl rfl (by decide) rfl ?_
        refine AL.val rfl (.inl rfl) (HV.pickF rfl rfl) ?_
        refine AL.val rfl (.inl rfl) (HV.as rfl) ?_
        refine AL.val rfl (.inl rfl) (HV.as rfl) ?_
        refine AL.nx ?_
        refine AW.ret ?_
        refine post_two rfl rfl rfl ?_ (.inr rfl)
        exfalso; omega
end Go.Proofs.YteajnanbfkcdcaaDoor.VC
