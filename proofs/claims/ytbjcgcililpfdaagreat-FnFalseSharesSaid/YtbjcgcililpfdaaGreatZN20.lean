/- Walks. -/
import Derived.Test.YtbjcgcililpfdaaGreatZN18
set_option linter.unusedVariables false
set_option linter.unusedSimpArgs false
namespace Go.Proofs.YtbjcgcililpfdaaGreat.VC
open Go Go.RowKit
variable {W : World} {H : Hp}

/-! ### Shares of which few were spoilt -/
open VI (dl dl_fst throughM)
def difN (l k : List (Int × Int)) : Nat → Nat
  | 0 => 0
  | n + 1 => difN l k n + if k.getD n (0, 0) = l.getD n (0, 0) then 0 else 1
theorem difN_self (l : List (Int × Int)) : ∀ n, difN l l n = 0
  | 0 => rfl
  | n + 1 => by unfold difN; rw [difN_self l n, if_pos rfl]
theorem difN_set (l k : List (Int × Int)) (q : Nat) (z : Int × Int) : ∀ n, difN l (k.set q z) n ≤ difN l k n + (if q < n then 1 else 0)
  | 0 => Nat.zero_le _
  | n + 1 => by
    have ih := difN_set l k q z n
    unfold difN
    by_cases e : q = n
    · subst e
      rw [if_neg (Nat.lt_irrefl _)] at ih
      rw [if_pos (Nat.lt_succ_self _)]
      split <;> split <;> omega
    · have e2 : (k.set q z).getD n (0, 0) = k.getD n (0, 0) := by
        rw [List.getD_eq_getElem?_getD, List.getElem?_set_ne e, ← List.getD_eq_getElem?_getD]
      rw [e2]
      by_cases h : q < n
      · rw [if_pos h] at ih; rw [if_pos (show q < n + 1 by omega)]; omega
      · rw [if_neg h] at ih; rw [if_neg (show ¬ q < n + 1 by omega)]; omega
structure Spl (p : Int) (l k : List (Int × Int)) (mo : Int) : Prop where
  len : k.length = l.length
  pts : ∀ j, (k.getD j (0, 0)).1 = (l.getD j (0, 0)).1
  els : ∀ j, j < k.length → 0 ≤ (k.getD j (0, 0)).2 ∧ (k.getD j (0, 0)).2 ≤ p - 1
  dif : (difN l k l.length : Int) ≤ mo
theorem Spl.refl {p : Int} {l : List (Int × Int)} (hv : ∀ j, j < l.length → 0 ≤ (l.getD j (0, 0)).2 ∧ (l.getD j (0, 0)).2 ≤ p - 1) : Spl p l l 0 := ⟨rfl, fun _ => rfl, hv, by rw [difN_self]; decide⟩
theorem Spl.set {p : Int} {l k : List (Int × Int)} {m m' : Int} (h : Spl p l k m) {q : Nat} {z : Int × Int} {y : Int} (hz : k[q]? = some z) (hy : 0 ≤ y ∧ y ≤ p - 1) (hm : m + 1 ≤ m') : Spl p l (k.set q (z.1, y)) m' := by
  obtain ⟨hq, e⟩ := List.getElem?_eq_some_iff.1 hz
  have hg : ∀ j, (k.set q (z.1, y)).getD j (0, 0) = if j = q then (z.1, y) else k.getD j (0, 0) := fun j => by
    rw [List.getD_eq_getElem?_getD, List.getElem?_set]
    by_cases h1 : q = j
    · subst h1; simp [hq]
    · rw [if_neg h1, if_neg (fun e => h1 e.symm), ← List.getD_eq_getElem?_getD]
  refine ⟨by rw [List.length_set]; exact h.len, fun j => ?_, fun j hj => ?_, ?_⟩
  · rw [hg]
    split
    · rename_i h1
      subst h1
      have := h.pts j
      rw [← this]
      show z.1 = (k.getD j (0, 0)).1
      simp [hz]
    · exact h.pts j
  · rw [hg]
    split
    · exact hy
    · exact h.els j (by rw [List.length_set] at hj; exact hj)
  · have q1 := difN_set l k q (z.1, y) l.length
    have q2 := h.dif
    split at q1 <;> omega
theorem ext_getD {k l : List (Int × Int)} {f : Int × Int → Int} (h : k.length = l.length) (he : ∀ j, f (k.getD j (0, 0)) = f (l.getD j (0, 0))) : k.map f = l.map f := by
  apply List.ext_getElem (by simp [h])
  intro j h1 h2
  have q := he j
  simp only [List.length_map] at h1 h2
  simpa [h1, h2] using q
theorem Spl.valid {p : Int} {l k : List (Int × Int)} {m : Int} (h : Spl p l k m) (hl : vS p l) : vS p k := by
  refine ⟨hl.1, fun j hj => ?_, ?_⟩
  · rw [List.length_map] at hj
    have q := h.els j hj
    simpa [hj] using q
  · rw [ext_getD (f := Prod.fst) h.len h.pts]; exact hl.2.2
/-- A share that was changed is one that does not lie on the curve. -/
theorem Spl.miss {p : Int} {a pts : List Int} {k : List (Int × Int)} {m : Int} (h : Spl p (dl p a pts) k m) (i : Nat) (hi : i < k.length) : missP p k a i ↔ ¬ k.getD i (0, 0) = (dl p a pts).getD i (0, 0) := by
  have hl : i < pts.length := by have := h.len; rw [dl_len] at this; omega
  have e1 := h.pts i
  have e2 : (dl p a pts).getD i (0, 0) = (pts.getD i 0, val p a (pts.getD i 0)) := by simp [dl, hl]
  rw [e2] at e1 ⊢
  unfold missP pxD
  have e3 : (k.getD i (0, 0)).1 = pts.getD i 0 := e1
  rw [e3]
  constructor
  · intro q e; exact q (by rw [e])
  · intro q e; exact q (Prod.ext e3 e.symm)
theorem Spl.misN {p : Int} {a pts : List Int} {k : List (Int × Int)} {m : Int} (h : Spl p (dl p a pts) k m) : ∀ n, n ≤ k.length → (missN p k a n).length = difN (dl p a pts) k n
  | 0, _ => rfl
  | n + 1, hn => by
    have ih := h.misN n (by omega)
    have q := h.miss n (by omega)
    unfold difN
    by_cases e : missP p k a n
    · rw [missN_y e, if_neg (q.1 e), List.length_append, ih]; rfl
    · rw [missN_n e, if_pos (Decidable.not_not.1 (fun z => e (q.2 z))), ih]; rfl
theorem missN_cnt (p : Int) (S : List (Int × Int)) (c : List Int) : ∀ n, n ≤ S.length → (missN p S c n).length + ((S.take n).filter (fun s => decide (val p c s.1 = s.2))).length = n
  | 0, _ => by simp [missN]
  | n + 1, hn => by
    have ih := missN_cnt p S c n (by omega)
    have hg : S[n]? = some S[n] := List.getElem?_eq_getElem (by omega)
    have q := missP_at (p := p) (c := c) hg
    rw [List.take_succ_eq_append_getElem (by omega), List.filter_append, List.length_append]
    by_cases e : val p c S[n].1 = S[n].2
    · rw [missN_n (fun z => q.1 z e)]
      simp only [List.filter_cons, e, decide_true, if_true, List.filter_nil, List.length_singleton]
      omega
    · rw [missN_y (q.2 e), List.length_append]
      simp only [List.filter_cons, e, decide_false, Bool.false_eq_true, if_false, List.filter_nil, List.length_nil, List.length_singleton]
      omega
theorem both_cnt {σ : Type} (P Q : σ → Bool) : ∀ S : List σ, (S.filter P).length + (S.filter Q).length ≤ S.length + (S.filter (fun s => P s && Q s)).length
  | [] => by simp
  | s :: t => by
    have ih := both_cnt P Q t
    simp only [List.filter_cons, List.length_cons]
    cases P s <;> cases Q s <;> simp <;> omega
/-- Three shares that lie on a curve of three coefficients make it. -/
theorem thr_good {p : Int} {a : List Int} {U : List (Int × Int)} (hP : primeI p) (ha : curveI p a) (hU : vS p U) (hl : a.length ≤ U.length) (hg : ∀ s ∈ U, val p a s.1 = s.2) : thrC p U = a := by
  have e : U = dl p a (U.map Prod.fst) := by
    unfold dl
    rw [List.map_map]
    exact (List.map_id U).symm.trans (List.map_congr_left fun s hs => Prod.ext rfl (hg s hs).symm)
  have q := dl_thr (pts := U.map Prod.fst) hP ha hU.2.2 (by rw [List.length_map]; exact hl)
  rw [← e] at q
  exact q
theorem near_self {p : Int} {a : List Int} {S : List (Int × Int)} {ag : Int} (hP : primeI p) (ha : curveI p a) (hal : a.length ≤ 3) (hv : vS p S) (h3 : (missL p S a).length + 3 ≤ S.length) (hag : ag ≤ (S.length : Int) - ((missL p S a).length : Int)) : a ∈ nearK p S 2 ag := by
  refine ((wk_near (p := p) (l := S) (ag := ag) (m := (2 + 1 : Int).toNat) (by decide)).2 a).2 ?_
  have q := missN_cnt p S a S.length (Nat.le_refl _)
  rw [List.take_length] at q
  have hsub : ((S.filter (fun s => decide (val p a s.1 = s.2))).take 3).Sublist S := (List.take_sublist _ _).trans List.filter_sublist
  have hlen : ((S.filter (fun s => decide (val p a s.1 = s.2))).take 3).length = 3 := by rw [List.length_take]; unfold missL at h3; omega
  refine ⟨_, hsub, hlen, (thr_good hP ha (vS_sub hv hsub) (by omega) (fun s hs => ?_)).symm, hag⟩
  have := (List.mem_filter.1 (List.mem_of_mem_take hs)).2
  simpa using this
theorem near_curve {p : Int} {c : List Int} {S : List (Int × Int)} {ag : Int} (hv : vS p S) (h : c ∈ nearK p S 2 ag) : curveI p c ∧ c.length ≤ 3 ∧ ag ≤ (S.length : Int) - ((missL p S c).length : Int) := by
  obtain ⟨U, h1, h2, rfl, h4⟩ := ((wk_near (p := p) (l := S) (ag := ag) (m := (2 + 1 : Int).toNat) (by decide)).2 c).1 h
  have hl := thrC_len p U
  have h3 : U.length = 3 := h2
  refine ⟨⟨by omega, thrC_in hv.1.1.1 U, ?_⟩, by omega, h4⟩
  unfold thrC throughM
  exact cut_last _ _ (Nat.le_refl _)
/-- A curve on which all but few shares lie is the only one. -/
theorem near_one {p : Int} {a c : List Int} {S : List (Int × Int)} {mo : Int} (hP : primeI p) (ha : curveI p a) (hal : a.length ≤ 3) (hv : vS p S) (hm : ((missL p S a).length : Int) ≤ mo) (hn : 3 + 2 * mo ≤ (S.length : Int)) (h : c ∈ nearK p S 2 ((S.length : Int) - mo)) : c = a := by
  obtain ⟨hc, hcl, hag⟩ := near_curve hv h
  have q1 := missN_cnt p S a S.length (Nat.le_refl _)
  have q2 := missN_cnt p S c S.length (Nat.le_refl _)
  rw [List.take_length] at q1 q2
  have q3 := both_cnt (fun s : Int × Int => decide (val p a s.1 = s.2)) (fun s => decide (val p c s.1 = s.2)) S
  unfold missL at hm hag
  have hsub : ((S.filter (fun s => decide (val p a s.1 = s.2) && decide (val p c s.1 = s.2))).take 3).Sublist S := (List.take_sublist _ _).trans List.filter_sublist
  have hlen : ((S.filter (fun s => decide (val p a s.1 = s.2) && decide (val p c s.1 = s.2))).take 3).length = 3 := by rw [List.length_take]; omega
  have hg : ∀ s ∈ (S.filter (fun s => decide (val p a s.1 = s.2) && decide (val p c s.1 = s.2))).take 3, val p a s.1 = s.2 ∧ val p c s.1 = s.2 := fun s hs => by
    have := (List.mem_filter.1 (List.mem_of_mem_take hs)).2
    simpa using this
  have e1 := thr_good hP ha (vS_sub hv hsub) (by omega) (fun s hs => (hg s hs).1)
  have e2 := thr_good hP hc (vS_sub hv hsub) (by omega) (fun s hs => (hg s hs).2)
  exact e2.symm.trans e1
theorem wk_len2 (p : Int) (l : List (Int × Int)) (dg ag : Int) (h : l.length ≤ 8) : (nearK p l dg ag).length ≤ 256 := by
  have q := wk_len (tryC_len p l ag) (m := (dg + 1).toNat) l [] []
  have q2 := Nat.pow_le_pow_right (n := 2) (by decide) h
  unfold nearK
  simp only [List.length_nil] at q
  omega
/-- What the law looks at. -/
structure Fin3 (p : Int) (a pts : List Int) (S : List (Int × Int)) (mo : Int) : Prop where
  code : fsC p S 2 mo = if 3 + 2 * mo ≤ (pts.length : Int) then 0 else 4
  cur : fsC p S 2 mo = 0 → fsA p S 2 mo = a
  mis : fsC p S 2 mo = 0 → fsB p S 2 mo = missL p S a
  ncode : neC p S 2 3 = 0
  mem : a ∈ neL p S 2 3
  each : ∀ c ∈ neL p S 2 3, curveI p c ∧ c.length ≤ 3 ∧ 3 ≤ (S.length : Int) - ((missL p S c).length : Int)
theorem fin3 {p : Int} {a pts : List Int} {S : List (Int × Int)} {mo : Int} (hP : primeI p) (ha : curveI p a) (hal : a.length ≤ 3) (hpt : ptsI p pts) (h4 : 4 ≤ pts.length ∧ pts.length ≤ 8) (hmo : 0 ≤ mo ∧ mo ≤ 1) (h : Spl p (dl p a pts) S mo) : Fin3 p a pts S mo := by
  have hv : vS p S := h.valid (vS_dl hP hpt)
  have hlen : S.length = pts.length := by have := h.len; rw [dl_len] at this; exact this
  have hmis : ((missL p S a).length : Int) ≤ mo := by
    have q := h.misN S.length (Nat.le_refl _)
    have q2 := h.dif
    rw [dl_len, ← hlen] at q2
    unfold missL; omega
  have hself : ∀ ag : Int, ag ≤ (S.length : Int) - mo → a ∈ nearK p S 2 ag := fun ag hag => near_self hP ha hal hv (by omega) (by omega)
  have hone : 3 + 2 * mo ≤ (S.length : Int) → ∃ z, (nearK p S 2 ((S.length : Int) - mo))[0]? = some z ∧ z = a := fun h3 => by
    have hm := hself ((S.length : Int) - mo) (Int.le_refl _)
    have hpos : 0 < (nearK p S 2 ((S.length : Int) - mo)).length := List.length_pos_of_mem hm
    exact ⟨_, List.getElem?_eq_getElem hpos, near_one hP ha hal hv hmis h3 (List.getElem_mem hpos)⟩
  have hne : neC p S 2 3 = 0 := ne_0 hv ⟨by decide, by decide, by decide⟩ (by have := wk_len2 p S 2 3 (by omega); omega)
  refine ⟨?_, fun hc => ?_, fun hc => ?_, hne, ?_, fun c hc => ?_⟩
  · by_cases h3 : 3 + 2 * mo ≤ (pts.length : Int)
    · rw [if_pos h3]
      refine fs_0 hv ⟨by decide, hmo.1⟩ ⟨by omega, by omega⟩ (fun e => ?_)
      have hm := hself ((S.length : Int) - mo) (Int.le_refl _)
      have := List.length_pos_of_mem hm
      omega
    · rw [if_neg h3]
      exact fs_4 hv ⟨by decide, hmo.1⟩ (fun q => by omega)
  · have h3 : 3 + 2 * mo ≤ (S.length : Int) := by
      by_cases q : mo ≤ 10 ∧ 2 + 1 + 2 * mo ≤ (S.length : Int)
      · omega
      · have := fs_4 (dg := 2) hv ⟨by decide, hmo.1⟩ q; omega
    obtain ⟨z, hz, rfl⟩ := hone h3
    exact fsA_0 hc hz
  · have h3 : 3 + 2 * mo ≤ (S.length : Int) := by
      by_cases q : mo ≤ 10 ∧ 2 + 1 + 2 * mo ≤ (S.length : Int)
      · omega
      · have := fs_4 (dg := 2) hv ⟨by decide, hmo.1⟩ q; omega
    obtain ⟨z, hz, rfl⟩ := hone h3
    exact fsB_0 hc hz
  · rw [neL_0 hne]; exact hself 3 (by omega)
  · rw [neL_0 hne] at hc; exact near_curve hv hc
theorem missN_pre (p : Int) (S : List (Int × Int)) (c : List Int) : ∀ d i : Nat, ∃ t, missN p S c (i + d) = missN p S c i ++ t
  | 0, i => ⟨[], by simp⟩
  | d + 1, i => by
    obtain ⟨t, ht⟩ := missN_pre p S c d i
    by_cases e : missP p S c (i + d)
    · exact ⟨t ++ [((i + d : Nat) : Int)], by rw [show i + (d + 1) = (i + d) + 1 by omega, missN_y e, ht, List.append_assoc]⟩
    · exact ⟨t, by rw [show i + (d + 1) = (i + d) + 1 by omega, missN_n e, ht]⟩
theorem named_at {p : Int} {S : List (Int × Int)} {c : List Int} {i : Nat} (hi : i < S.length) (hm : missP p S c i) : (missN p S c i).length < (missL p S c).length ∧ (missL p S c).getD (missN p S c i).length 0 = (i : Int) := by
  obtain ⟨t, ht⟩ := missN_pre p S c (S.length - (i + 1)) (i + 1)
  rw [show i + 1 + (S.length - (i + 1)) = S.length by omega, missN_y hm] at ht
  unfold missL
  rw [ht]
  constructor
  · simp only [List.length_append, List.length_singleton]; omega
  · simp
theorem getD_mem {k : List (List Int)} {i : Nat} (h : i < k.length) : k.getD i [] ∈ k := by
  have e : k.getD i [] = k[i] := by simp [h]
  rw [e]; exact List.getElem_mem h
set_option maxRecDepth 100000 in
theorem validCu_ok {v : Value} {l : List Int} {ok : Nat → Prop} {p : Int} (hr : RdK kI W H ok v l) : ACalls Tryz.prog W 35 #[.int .i64 p, v] H (fun r H' => r = .bool (decide (primeI p ∧ curveI p l)) ∧ Ext H H') := by
  refine ACalls.of (args := [.int .i64 p, v]) Tryz.func35 rfl rfl ?_
  have X0 := Ext.refl H
  have hm1 := hr.max
  refine AW.rs ?_
  refine AL.val rfl (.inl rfl) (HV.as rfl) ?_
  refine AL.nx ?_
  refine AW.rs ?_
  refine AL.val rfl (.inl rfl) (HV.mv rfl) ?_
  refine AL.val rfl (.inl rfl) (HV.mv rfl) ?_
  refine AL.w rfl (.inl rfl) (WV.call fn36 rfl (areEl_ok p hr)) ?_
  rintro _ H2 ⟨rfl, hx3⟩
  have X4 := Ext.trans X0 hx3
  refine AL.val rfl (.inl rfl) (HV.mv rfl) ?_
  by_cases c5 : primeI p ∧ elems p l
  · -- true
    have c5_ : decide (primeI p ∧ elems p l) = true := decide_eq_true c5
    rw [c5_]
    refine AL.val rfl (.inr ⟨_, _, _, rfl, rfl, rfl⟩) (HV.mv rfl) ?_
    refine AL.val rfl (.inr ⟨_, _, _, rfl, rfl, rfl⟩) (HV.len Tryz.underlying25 rfl hr.isSl) ?_
    refine AL.val rfl (.inr ⟨_, _, _, rfl, rfl, rfl⟩) (HV.lei rfl rfl) ?_
    refine AL.val rfl (.inl rfl) (HV.pickT rfl rfl) ?_
    refine AL.val rfl (.inl rfl) (HV.mv rfl) ?_
    by_cases c6 : (l.length : Int) ≤ 7
    · -- true
      have c6_ : decide ((l.length : Int) ≤ 7) = true := decide_eq_true c6
      rw [c6_]
      refine AL.val rfl (.inr ⟨_, _, _, rfl, rfl, rfl⟩) (HV.mv rfl) ?_
      refine AL.val rfl (.inr ⟨_, _, _, rfl, rfl, rfl⟩) (HV.len Tryz.underlying25 rfl hr.isSl) ?_
      refine AL.val rfl (.inr ⟨_, _, _, rfl, rfl, rfl⟩) (HV.eqi rfl rfl) ?_
      refine AL.val rfl (.inr ⟨_, _, _, rfl, rfl, rfl⟩) (HV.mv rfl) ?_
      by_cases c7 : (l.length : Int) = 0
      · -- true
        have c7_ : decide ((l.length : Int) = 0) = true := decide_eq_true c7
        rw [c7_]
        refine AL.off rfl rfl (by decide) rfl ?_
        refine AL.off rfl rfl (by decide) rfl ?_
        refine AL.off rfl rfl (by decide) rfl ?_
        refine AL.off rfl rfl (by decide) rfl ?_
        refine AL.off rfl rfl (by decide) rfl ?_
        refine AL.off rfl rfl (by decide) rfl ?_
        refine AL.off rfl rfl (by decide) rfl ?_
        refine AL.val rfl (.inr ⟨_, _, _, rfl, rfl, rfl⟩) (HV.pickT rfl rfl) ?_
        refine AL.val rfl (.inl rfl) (HV.pickT rfl rfl) ?_
        refine AL.val rfl (.inl rfl) (HV.as rfl) ?_
        refine AL.nx ?_
        refine AW.ret ?_
        refine post_one rfl rfl ?_ (.inr rfl)
        have hE := (by assumption : primeI p ∧ elems p l); exact ⟨dec_t ⟨hE.1, by assumption, hE.2, .inl (by assumption)⟩, X4⟩
      · -- false
        have c7_ : decide ((l.length : Int) = 0) = false := decide_eq_false c7
        rw [c7_]
        refine AL.val rfl (.inr ⟨_, _, _, rfl, rfl, rfl⟩) (HV.mv rfl) ?_
        refine AL.val rfl (.inr ⟨_, _, _, rfl, rfl, rfl⟩) (HV.mv rfl) ?_
        refine AL.val rfl (.inr ⟨_, _, _, rfl, rfl, rfl⟩) (HV.len Tryz.underlying25 rfl hr.isSl) ?_
        refine AL.val rfl (.inr ⟨_, _, _, rfl, rfl, rfl⟩) (HV.sub rfl rfl (by omega)) ?_
        obtain ⟨p8, z9, cs10, hz11, hK12, hC13, hP14⟩ := RdK.ix (q := (l.length : Int) - 1) hr sl25 (by omega) (by omega)
        obtain rfl : cs10 = [.int .i64 z9] := hK12
        refine AL.val rfl (.inr ⟨_, _, _, rfl, rfl, rfl⟩) (hP14 rfl rfl) ?_
        refine AL.val rfl (.inr ⟨_, _, _, rfl, rfl, rfl⟩) (HV.ld rfl va2 (cells_first (hC13.ext X4) rfl)) ?_
        refine AL.val rfl (.inr ⟨_, _, _, rfl, rfl, rfl⟩) (HV.nei rfl rfl) ?_
        refine AL.val rfl (.inr ⟨_, _, _, rfl, rfl, rfl⟩) (HV.pickF rfl rfl) ?_
        refine AL.val rfl (.inl rfl) (HV.pickT rfl rfl) ?_
        refine AL.val rfl (.inl rfl) (HV.as rfl) ?_
        refine AL.nx ?_
        refine AW.ret ?_
        refine post_one rfl rfl ?_ (.inr rfl)
        have hE := (by assumption : primeI p ∧ elems p l); have g22 : l.getD (l.length - 1) 0 = z9 := gd hz11 (by omega); exact ⟨congrArg Value.bool (decide_eq_decide.2 ⟨fun h => ⟨hE.1, by assumption, hE.2, .inr (by rw [g22]; exact h)⟩, fun h => by have q := h.2.2.2.resolve_left c7; rwa [g22] at q⟩), X4⟩
    · -- false
      have c6_ : decide ((l.length : Int) ≤ 7) = false := decide_eq_false c6
      rw [c6_]
      refine AL.off rfl rfl (by decide) rfl ?_
      refine AL.off rfl rfl (by decide) rfl ?_
      refine AL.off rfl rfl (by decide) rfl ?_
      refine AL.off rfl rfl (by decide) rfl ?_
      refine AL.offu rfl rfl rfl ?_
      refine AL.offu rfl rfl rfl ?_
      refine AL.offu rfl rfl rfl ?_
      refine AL.offu rfl rfl rfl ?_
      refine AL.offu rfl rfl rfl ?_
      refine AL.offu rfl rfl rfl ?_
      refine AL.offu rfl rfl rfl ?_
      refine AL.off rfl rfl (by decide) rfl ?_
      refine AL.val rfl (.inl rfl) (HV.pickF rfl rfl) ?_
      refine AL.val rfl (.inl rfl) (HV.as rfl) ?_
      refine AL.nx ?_
      refine AW.ret ?_
      refine post_one rfl rfl ?_ (.inr rfl)
      exact ⟨dec_f (fun h => by first | exact c6 h.2.1 | exact c6 h.2.2.1 | exact c6 ⟨h.1, h.2.2.1⟩), X4⟩
  · -- false
    have c5_ : decide (primeI p ∧ elems p l) = false := decide_eq_false c5
    rw [c5_]
    refine AL.off rfl rfl (by decide) rfl ?_
    refine AL.off rfl rfl (by decide) rfl ?_
    refine AL.off rfl rfl (by decide) rfl ?_
    refine AL.val rfl (.inl rfl) (HV.pickF rfl rfl) ?_
    refine AL.val rfl (.inl rfl) (HV.mv rfl) ?_
    refine AL.off rfl rfl (by decide) rfl ?_
    refine AL.off rfl rfl (by decide) rfl ?_
    refine AL.off rfl rfl (by decide) rfl ?_
    refine AL.off rfl rfl (by decide) rfl ?_
    refine AL.offu rfl rfl rfl ?_
    refine AL.offu rfl rfl rfl ?_
    refine AL.offu rfl rfl rfl ?_
    refine AL.offu rfl rfl rfl ?_
    refine AL.offu rfl rfl rfl ?_
    refine AL.offu rfl rfl rfl ?_
    refine AL.offu rfl rfl rfl ?_
    refine AL.off rfl rfl (by decide) rfl ?_
    refine AL.val rfl (.inl rfl) (HV.pickF rfl rfl) ?_
    refine AL.val rfl (.inl rfl) (HV.as rfl) ?_
    refine AL.nx ?_
    refine AW.ret ?_
    refine post_one rfl rfl ?_ (.inr rfl)
    exact ⟨dec_f (fun h => by first | exact c5 h.2.1 | exact c5 h.2.2.1 | exact c5 ⟨h.1, h.2.2.1⟩), X4⟩

set_option maxRecDepth 100000 in
theorem l05Cu_ok {v : Value} {l : List Int} {ok : Nat → Prop} {p : Int} (hr : RdK kI W H ok v l) (hp : 2 ≤ p ∧ p ≤ 31) : ACalls Tryz.prog W 42 #[.int .i64 p, v] H (fun r H' => r = .bool (decide (curveI p l)) ∧ Ext H H') := by
  refine ACalls.of (args := [.int .i64 p, v]) Tryz.func42 rfl rfl ?_
  have X0 := Ext.refl H
  have hm1 := hr.max
  refine AW.rs ?_
  refine AL.val rfl (.inl rfl) (HV.as rfl) ?_
  refine AL.nx ?_
  refine AW.rs ?_
  refine AL.val rfl (.inl rfl) (HV.mv rfl) ?_
  refine AL.val rfl (.inl rfl) (HV.len Tryz.underlying25 rfl hr.isSl) ?_
  refine AL.val rfl (.inl rfl) (HV.lei rfl rfl) ?_
  refine AL.val rfl (.inl rfl) (HV.mv rfl) ?_
  by_cases c2 : (l.length : Int) ≤ 7
  · -- true
    have c2_ : decide ((l.length : Int) ≤ 7) = true := decide_eq_true c2
    rw [c2_]
    refine AL.val rfl (.inr ⟨_, _, _, rfl, rfl, rfl⟩) (HV.mv rfl) ?_
    refine AL.val rfl (.inr ⟨_, _, _, rfl, rfl, rfl⟩) (HV.mv rfl) ?_
    refine AL.w rfl (.inr ⟨_, _, _, rfl, rfl, rfl⟩) (WV.call fn58 rfl (resid_ok hr hp)) ?_
    rintro _ H3 ⟨rfl, hx4⟩
    have X5 := Ext.trans X0 hx4
    refine AL.val rfl (.inl rfl) (HV.pickT rfl rfl) ?_
    refine AL.val rfl (.inl rfl) (HV.mv rfl) ?_
    by_cases c6 : elems p l
    · -- true
      have c6_ : decide (elems p l) = true := decide_eq_true c6
      rw [c6_]
      refine AL.val rfl (.inr ⟨_, _, _, rfl, rfl, rfl⟩) (HV.mv rfl) ?_
      refine AL.val rfl (.inr ⟨_, _, _, rfl, rfl, rfl⟩) (HV.len Tryz.underlying25 rfl hr.isSl) ?_
      refine AL.val rfl (.inr ⟨_, _, _, rfl, rfl, rfl⟩) (HV.eqi rfl rfl) ?_
      refine AL.val rfl (.inr ⟨_, _, _, rfl, rfl, rfl⟩) (HV.mv rfl) ?_
      by_cases c7 : (l.length : Int) = 0
      · -- true
        have c7_ : decide ((l.length : Int) = 0) = true := decide_eq_true c7
        rw [c7_]
        refine AL.off rfl rfl (by decide) rfl ?_
        refine AL.off rfl rfl (by decide) rfl ?_
        refine AL.off rfl rfl (by decide) rfl ?_
        refine AL.off rfl rfl (by decide) rfl ?_
        refine AL.off rfl rfl (by decide) rfl ?_
        refine AL.off rfl rfl (by decide) rfl ?_
        refine AL.off rfl rfl (by decide) rfl ?_
        refine AL.val rfl (.inr ⟨_, _, _, rfl, rfl, rfl⟩) (HV.pickT rfl rfl) ?_
        refine AL.val rfl (.inl rfl) (HV.pickT rfl rfl) ?_
        refine AL.val rfl (.inl rfl) (HV.as rfl) ?_
        refine AL.nx ?_
        refine AW.ret ?_
        refine post_one rfl rfl ?_ (.inr rfl)
        have hE := (by assumption : elems p l); exact ⟨dec_t ⟨by assumption, hE, .inl (by assumption)⟩, X5⟩
      · -- false
        have c7_ : decide ((l.length : Int) = 0) = false := decide_eq_false c7
        rw [c7_]
        refine AL.val rfl (.inr ⟨_, _, _, rfl, rfl, rfl⟩) (HV.mv rfl) ?_
        refine AL.val rfl (.inr ⟨_, _, _, rfl, rfl, rfl⟩) (HV.mv rfl) ?_
        refine AL.val rfl (.inr ⟨_, _, _, rfl, rfl, rfl⟩) (HV.len Tryz.underlying25 rfl hr.isSl) ?_
        refine AL.val rfl (.inr ⟨_, _, _, rfl, rfl, rfl⟩) (HV.sub rfl rfl (by omega)) ?_
        obtain ⟨p8, z9, cs10, hz11, hK12, hC13, hP14⟩ := RdK.ix (q := (l.length : Int) - 1) hr sl25 (by omega) (by omega)
        obtain rfl : cs10 = [.int .i64 z9] := hK12
        refine AL.val rfl (.inr ⟨_, _, _, rfl, rfl, rfl⟩) (hP14 rfl rfl) ?_
        refine AL.val rfl (.inr ⟨_, _, _, rfl, rfl, rfl⟩) (HV.ld rfl va2 (cells_first (hC13.ext X5) rfl)) ?_
        refine AL.val rfl (.inr ⟨_, _, _, rfl, rfl, rfl⟩) (HV.nei rfl rfl) ?_
        refine AL.val rfl (.inr ⟨_, _, _, rfl, rfl, rfl⟩) (HV.pickF rfl rfl) ?_
        refine AL.val rfl (.inl rfl) (HV.pickT rfl rfl) ?_
        refine AL.val rfl (.inl rfl) (HV.as rfl) ?_
        refine AL.nx ?_
        refine AW.ret ?_
        refine post_one rfl rfl ?_ (.inr rfl)
        have hE := (by assumption : elems p l); have g22 : l.getD (l.length - 1) 0 = z9 := gd hz11 (by omega); exact ⟨congrArg Value.bool (decide_eq_decide.2 ⟨fun h => ⟨by assumption, hE, .inr (by rw [g22]; exact h)⟩, fun h => by have q := h.2.2.resolve_left c7; rwa [g22] at q⟩), X5⟩
    · -- false
      have c6_ : decide (elems p l) = false := decide_eq_false c6
      rw [c6_]
      refine AL.off rfl rfl (by decide) rfl ?_
      refine AL.off rfl rfl (by decide) rfl ?_
      refine AL.off rfl rfl (by decide) rfl ?_
      refine AL.off rfl rfl (by decide) rfl ?_
      refine AL.offu rfl rfl rfl ?_
      refine AL.offu rfl rfl rfl ?_
      refine AL.offu rfl rfl rfl ?_
      refine AL.offu rfl rfl rfl ?_
      refine AL.offu rfl rfl rfl ?_
      refine AL.offu rfl rfl rfl ?_
      refine AL.offu rfl rfl rfl ?_
      refine AL.off rfl rfl (by decide) rfl ?_
      refine AL.val rfl (.inl rfl) (HV.pickF rfl rfl) ?_
      refine AL.val rfl (.inl rfl) (HV.as rfl) ?_
      refine AL.nx ?_
      refine AW.ret ?_
      refine post_one rfl rfl ?_ (.inr rfl)
      exact ⟨dec_f (fun h => by first | exact c6 h.1 | exact c6 h.2.1), X5⟩
  · -- false
    have c2_ : decide ((l.length : Int) ≤ 7) = false := decide_eq_false c2
    rw [c2_]
    refine AL.off rfl rfl (by decide) rfl ?_
    refine AL.off rfl rfl (by decide) rfl ?_
    refine AL.off rfl rfl (by decide) rfl ?_
    refine AL.val rfl (.inl rfl) (HV.pickF rfl rfl) ?_
    refine AL.val rfl (.inl rfl) (HV.mv rfl) ?_
    refine AL.off rfl rfl (by decide) rfl ?_
    refine AL.off rfl rfl (by decide) rfl ?_
    refine AL.off rfl rfl (by decide) rfl ?_
    refine AL.off rfl rfl (by decide) rfl ?_
    refine AL.offu rfl rfl rfl ?_
    refine AL.offu rfl rfl rfl ?_
    refine AL.offu rfl rfl rfl ?_
    refine AL.offu rfl rfl rfl ?_
    refine AL.offu rfl rfl rfl ?_
    refine AL.offu rfl rfl rfl ?_
    refine AL.offu rfl rfl rfl ?_
    refine AL.off rfl rfl (by decide) rfl ?_
    refine AL.val rfl (.inl rfl) (HV.pickF rfl rfl) ?_
    refine AL.val rfl (.inl rfl) (HV.as rfl) ?_
    refine AL.nx ?_
    refine AW.ret ?_
    refine post_one rfl rfl ?_ (.inr rfl)
    exact ⟨dec_f (fun h => by first | exact c2 h.1 | exact c2 h.2.1), X0⟩

set_option maxRecDepth 100000 in
theorem next_ok {vc : Value} {l : List Int} {bq : Nat} {a s : Int} (hr : RdK kU8 W H (fun _ => False) vc l) (hby : bytes l) (hbq : At W H bq ⟨61, [vc, .int .i64 a, .int .u64 s], 3⟩) (ha : 0 ≤ a ∧ a ≤ 2000000) : ACalls Tryz.prog W 40 #[.pointer (some ⟨bq, 0, none⟩)] H (fun r H' => (∃ q a' s', r = .int .i64 q ∧ (0 ≤ q ∧ q ≤ 255) ∧ (a ≤ a' ∧ a' ≤ a + 1) ∧ At W H' bq ⟨61, [vc, .int .i64 a', .int .u64 s'], 3⟩) ∧ But (fun x => x = bq) H H') := by
  refine ACalls.of (args := [.pointer (some ⟨bq, 0, none⟩)]) Tryz.func40 rfl rfl ?_
  have X0 := Ext.refl H
  have BT0 := But.refl (fun x => x = bq) H
  refine AW.rs ?_
  refine AL.val rfl (.inl rfl) (HV.as rfl) ?_
  refine AL.nx ?_
  refine AW.rs ?_
  refine AL.val rfl (.inl rfl) (HV.as rfl) ?_
  refine AL.nx ?_
  refine AW.seq ?_
  refine AW.seq ?_
  refine AW.draw' [0, 1, 3, 7, 0, 16, 48, 112, 240, 511] mixed (by rfl) ?_
  refine Dr.read 0 _ 4 _ rfl rfl rfl rfl rfl (RV.of (by intro _ _ h; cases h) (.inl rfl) (fun _ xd => HV.mv rfl)) ?_
  refine Dr.read 1 _ 5 _ rfl rfl rfl rfl rfl (RV.of (by intro _ _ h; cases h) (.inl rfl) (fun _ xd => HV.nc rfl)) ?_
  refine Dr.read 2 _ 6 _ rfl rfl rfl rfl rfl (RV.of (by intro _ _ h; cases h) (.inl rfl) (fun _ xd => HV.fa fl61_1 rfl)) ?_
  refine Dr.read 3 _ 7 _ rfl rfl rfl rfl rfl (RV.of (by intro _ _ h; cases h) (.inl rfl) (fun _ xd => HV.ld rfl va3 (rdc_ext xd (at_cell_add (j := 1) hbq rfl)))) ?_
  refine Dr.read 4 _ 8 _ rfl rfl rfl rfl rfl (RV.of (by intro _ _ h; cases h) (.inl rfl) (fun _ xd => HV.mv rfl)) ?_
  refine Dr.read 5 _ 9 _ rfl rfl rfl rfl rfl (RV.of (by intro _ _ h; cases h) (.inl rfl) (fun _ xd => HV.nc rfl)) ?_
  refine Dr.read 6 _ 10 _ rfl rfl rfl rfl rfl (RV.of (by intro _ _ h; cases h) (.inl rfl) (fun _ xd => HV.fa fl61_0 rfl)) ?_
  refine Dr.read 7 _ 11 _ rfl rfl rfl rfl rfl (RV.of (by intro _ _ h; cases h) (.inl rfl) (fun _ xd => HV.ld rfl va22 (rdc_ext xd (at_cell hbq rfl)))) ?_
  refine Dr.read 8 _ 12 _ rfl rfl rfl rfl rfl (RV.of (by intro _ _ h; cases h) (.inl rfl) (fun _ xd => HV.len Tryz.underlying22 rfl hr.isSl)) ?_
  refine Dr.read 9 _ 13 _ rfl rfl rfl rfl rfl (RV.of (by intro _ _ h; cases h) (.inl rfl) (fun _ xd => HV.lti rfl rfl)) ?_
  refine Dr.fin rfl ?_
  refine nrm_and ?_
  refine AW.ifd rfl (fun c1 => ?_) (fun c1 => ?_)
  · -- then
    refine AW.draw' [0, 1, 3, 7, 0, 16, 48, 112, 255, 511, 1023, 2047] mixed (by rfl) ?_
    refine Dr.read 0 _ 14 _ rfl rfl rfl rfl rfl (RV.of (by intro _ _ h; cases h) (.inl rfl) (fun _ xd => HV.mv rfl)) ?_
    refine Dr.read 1 _ 15 _ rfl rfl rfl rfl rfl (RV.of (by intro _ _ h; cases h) (.inl rfl) (fun _ xd => HV.nc rfl)) ?_
    refine Dr.read 2 _ 16 _ rfl rfl rfl rfl rfl (RV.of (by intro _ _ h; cases h) (.inl rfl) (fun _ xd => HV.fa fl61_0 rfl)) ?_
    refine Dr.read 3 _ 17 _ rfl rfl rfl rfl rfl (RV.of (by intro _ _ h; cases h) (.inl rfl) (fun _ xd => HV.ld rfl va22 (rdc_ext xd (at_cell hbq rfl)))) ?_
    refine Dr.read 4 _ 18 _ rfl rfl rfl rfl rfl (RV.of (by intro _ _ h; cases h) (.inl rfl) (fun _ xd => HV.mv rfl)) ?_
    refine Dr.read 5 _ 19 _ rfl rfl rfl rfl rfl (RV.of (by intro _ _ h; cases h) (.inl rfl) (fun _ xd => HV.nc rfl)) ?_
    refine Dr.read 6 _ 20 _ rfl rfl rfl rfl rfl (RV.of (by intro _ _ h; cases h) (.inl rfl) (fun _ xd => HV.fa fl61_1 rfl)) ?_
    refine Dr.read 7 _ 21 _ rfl rfl rfl rfl rfl (RV.of (by intro _ _ h; cases h) (.inl rfl) (fun _ xd => HV.ld rfl va3 (rdc_ext xd (at_cell_add (j := 1) hbq rfl)))) ?_
    obtain ⟨p2, z3, cs4, hz5, hK6, hC7, hP8⟩ := RdK.ix (q := a) hr sl22 (by omega) (by omega)
    obtain rfl : cs4 = [.int .u8 z3] := hK6
    refine Dr.read 8 _ 22 _ rfl rfl rfl rfl rfl (RV.of (by intro _ _ h; cases h) (.inl rfl) (fun _ xd => hP8 rfl rfl)) ?_
    refine Dr.read 9 _ 23 _ rfl rfl rfl rfl rfl (RV.of (by intro _ _ h; cases h) (.inl rfl) (fun _ xd => HV.ld rfl va5 (rdc_ext xd (cells_first hC7 rfl)))) ?_
    refine Dr.read 10 _ 24 _ rfl rfl rfl rfl rfl (RV.of (by intro _ _ h; cases h) (.inl rfl) (fun _ xd => HV.cve (by rw [Tryz.underlying5]; rfl) Tryz.underlying3 rfl (i64_id (hby _ (List.mem_of_getElem? hz5))))) ?_
    refine Dr.read 11 _ 3 _ rfl rfl rfl rfl rfl (RV.of (by intro _ _ h; cases h) (.inl rfl) (fun _ xd => HV.as rfl)) ?_
    refine Dr.fin rfl ?_
    refine nrm_and ?_
    refine AW.rs ?_
    refine AL.val rfl (.inl rfl) (HV.mv rfl) ?_
    refine AL.val rfl (.inl rfl) (HV.nc rfl) ?_
    refine AL.val rfl (.inl rfl) (HV.fa fl61_1 rfl) ?_
    refine AL.val rfl (.inl rfl) (HV.ld rfl va3 (at_cell_add (j := 1) hbq rfl)) ?_
    refine AL.val rfl (.inl rfl) (HV.add rfl rfl (by omega)) ?_
    refine AL.val rfl (.inl rfl) (HV.nc rfl) ?_
    refine AL.val rfl (.inl rfl) (HV.fa fl61_1 rfl) ?_
    refine AL.w0 (.inl rfl) (WV.st rfl rfl va3 rfl hbq (Nat.le_of_ble_eq_true rfl) (one_cons rfl one_nil)) ?_
    rintro _ H9 ⟨hx10, hb11⟩
    have B12 := But.trans BT0 hx10
    have q14 := Nat.le_trans X0.bd hx10.bd
    have ho15 := hr.but hx10 (fun _ f _ => f.elim) (fun z_ hz_ => by rw [hz_]; exact hbq.w)
    have hb16 : At W H9 bq ⟨61, [vc, .int .i64 (a + 1), .int .u64 s], 3⟩ := hb11
    refine AL.nx ?_
    refine AW.rs ?_
    refine AL.val rfl (.inl rfl) (HV.mv rfl) ?_
    refine AL.val rfl (.inl rfl) (HV.mv rfl) ?_
    refine AL.val rfl (.inl rfl) (HV.nc rfl) ?_
    refine AL.val rfl (.inl rfl) (HV.fa fl61_2 rfl) ?_
    refine AL.val rfl (.inl rfl) (HV.ld rfl va59 (at_cell_add (j := 2) hb16 rfl)) ?_
    refine AL.val rfl (.inl rfl) (HV.mulw rfl rfl) ?_
    refine AL.val rfl (.inl rfl) (HV.mv rfl) ?_
    refine AL.val rfl (.inl rfl) (HV.cv (by rw [Tryz.underlying3]; rfl) Tryz.underlying59 rfl) ?_
    refine AL.val rfl (.inl rfl) (HV.addw rfl rfl) ?_
    refine AL.val rfl (.inl rfl) (HV.addw rfl rfl) ?_
    refine AL.val rfl (.inl rfl) (HV.nc rfl) ?_
    refine AL.val rfl (.inl rfl) (HV.fa fl61_2 rfl) ?_
    refine AL.w0 (.inl rfl) (WV.st rfl rfl va59 rfl hb16 (Nat.le_of_ble_eq_true rfl) (one_cons rfl one_nil)) ?_
    rintro _ H17 ⟨hx18, hb19⟩
    have B20 := But.trans B12 hx18
    have q21 := Nat.le_trans q14 hx18.bd
    have ho22 := ho15.but hx18 (fun _ f _ => f.elim) (fun z_ hz_ => by rw [hz_]; exact hb16.w)
    have hb23 : At W H17 bq ⟨61, [vc, .int .i64 (a + 1), .int .u64 (IntKind.u64.wrap ((IntKind.u64.wrap ((IntKind.u64.wrap (s * 6364136223846793005)) + (IntKind.u64.wrap z3))) + 1442695040888963407))], 3⟩ := hb19
    refine AL.nx ?_
    refine AW.seq ?_
    refine AW.seq ?_
    refine AW.draw' [0, 1, 3, 7, 0, 16, 48, 112, 240, 511] mixed (by rfl) ?_
    refine Dr.read 0 _ 44 _ rfl rfl rfl rfl rfl (RV.of (by intro _ _ h; cases h) (.inl rfl) (fun _ xd => HV.mv rfl)) ?_
    refine Dr.read 1 _ 45 _ rfl rfl rfl rfl rfl (RV.of (by intro _ _ h; cases h) (.inl rfl) (fun _ xd => HV.nc rfl)) ?_
    refine Dr.read 2 _ 46 _ rfl rfl rfl rfl rfl (RV.of (by intro _ _ h; cases h) (.inl rfl) (fun _ xd => HV.fa fl61_1 rfl)) ?_
    refine Dr.read 3 _ 47 _ rfl rfl rfl rfl rfl (RV.of (by intro _ _ h; cases h) (.inl rfl) (fun _ xd => HV.ld rfl va3 (rdc_ext xd (at_cell_add (j := 1) hb23 rfl)))) ?_
    refine Dr.read 4 _ 48 _ rfl rfl rfl rfl rfl (RV.of (by intro _ _ h; cases h) (.inl rfl) (fun _ xd => HV.mv rfl)) ?_
    refine Dr.read 5 _ 49 _ rfl rfl rfl rfl rfl (RV.of (by intro _ _ h; cases h) (.inl rfl) (fun _ xd => HV.nc rfl)) ?_
    refine Dr.read 6 _ 50 _ rfl rfl rfl rfl rfl (RV.of (by intro _ _ h; cases h) (.inl rfl) (fun _ xd => HV.fa fl61_0 rfl)) ?_
    refine Dr.read 7 _ 51 _ rfl rfl rfl rfl rfl (RV.of (by intro _ _ h; cases h) (.inl rfl) (fun _ xd => HV.ld rfl va22 (rdc_ext xd (at_cell hb23 rfl)))) ?_
    refine Dr.read 8 _ 52 _ rfl rfl rfl rfl rfl (RV.of (by intro _ _ h; cases h) (.inl rfl) (fun _ xd => HV.len Tryz.underlying22 rfl ho22.isSl)) ?_
    refine Dr.read 9 _ 53 _ rfl rfl rfl rfl rfl (RV.of (by intro _ _ h; cases h) (.inl rfl) (fun _ xd => HV.lei rfl rfl)) ?_
    refine Dr.fin rfl ?_
    refine nrm_and ?_
    refine AW.ifd rfl (fun c24 => ?_) (fun c24 => ?_)
    · -- then
      refine AW.rs ?_
      refine AL.val rfl (.inl rfl) (HV.mv rfl) ?_
      refine AL.val rfl (.inl rfl) (HV.as rfl) ?_
      refine AL.nx ?_
      refine AW.ret ?_
      refine ret_and ?_
      refine post_one rfl rfl ?_ (.inr rfl)
      exact ⟨⟨_, _, _, rfl, by first | exact bt_255 _ | (have q_ := hby _ (List.mem_of_getElem? hz5); omega), by omega, hb23⟩, B20⟩
    · -- else
      refine AW.skip ?_
      refine nrm_and ?_
      refine AW.rs ?_
      refine AL.val rfl (.inl rfl) (HV.mv rfl) ?_
      refine AL.val rfl (.inl rfl) (HV.nc rfl) ?_
      refine AL.val rfl (.inl rfl) (HV.fa fl61_2 rfl) ?_
      refine AL.val rfl (.inl rfl) (HV.ld rfl va59 (at_cell_add (j := 2) hb23 rfl)) ?_
      refine AL.val rfl (.inl rfl) (HV.shr rfl rfl (by omega)) ?_
      refine AL.val rfl (.inl rfl) (HV.bits (by simp) rfl rfl) ?_
      refine AL.val rfl (.inl rfl) (HV.cve (by rw [Tryz.underlying59]; rfl) Tryz.underlying2 rfl (i64_id (bt_255 _))) ?_
      refine AL.val rfl (.inl rfl) (HV.as rfl) ?_
      refine AL.nx ?_
      refine AW.ret ?_
      refine post_one rfl rfl ?_ (.inr rfl)
      exact ⟨⟨_, _, _, rfl, by first | exact bt_255 _ | (have q_ := hby _ (List.mem_of_getElem? hz5); omega), by omega, hb23⟩, B20⟩
  · -- else
    refine AW.skip ?_
    refine nrm_and ?_
    refine AW.rs ?_
    refine AL.val rfl (.inl rfl) (HV.mv rfl) ?_
    refine AL.val rfl (.inl rfl) (HV.nc rfl) ?_
    refine AL.val rfl (.inl rfl) (HV.fa fl61_1 rfl) ?_
    refine AL.val rfl (.inl rfl) (HV.ld rfl va3 (at_cell_add (j := 1) hbq rfl)) ?_
    refine AL.val rfl (.inl rfl) (HV.add rfl rfl (by omega)) ?_
    refine AL.val rfl (.inl rfl) (HV.nc rfl) ?_
    refine AL.val rfl (.inl rfl) (HV.fa fl61_1 rfl) ?_
    refine AL.w0 (.inl rfl) (WV.st rfl rfl va3 rfl hbq (Nat.le_of_ble_eq_true rfl) (one_cons rfl one_nil)) ?_
    rintro _ H25 ⟨hx26, hb27⟩
    have B28 := But.trans BT0 hx26
    have q30 := Nat.le_trans X0.bd hx26.bd
    have ho31 := hr.but hx26 (fun _ f _ => f.elim) (fun z_ hz_ => by rw [hz_]; exact hbq.w)
    have hb32 : At W H25 bq ⟨61, [vc, .int .i64 (a + 1), .int .u64 s], 3⟩ := hb27
    refine AL.nx ?_
    refine AW.rs ?_
    refine AL.val rfl (.inl rfl) (HV.mv rfl) ?_
    refine AL.val rfl (.inl rfl) (HV.mv rfl) ?_
    refine AL.val rfl (.inl rfl) (HV.nc rfl) ?_
    refine AL.val rfl (.inl rfl) (HV.fa fl61_2 rfl) ?_
    refine AL.val rfl (.inl rfl) (HV.ld rfl va59 (at_cell_add (j := 2) hb32 rfl)) ?_
    refine AL.val rfl (.inl rfl) (HV.mulw rfl rfl) ?_
    refine AL.val rfl (.inl rfl) (HV.mv rfl) ?_
    refine AL.val rfl (.inl rfl) (HV.cv (by rw [Tryz.underlying3]; rfl) Tryz.underlying59 rfl) ?_
    refine AL.val rfl (.inl rfl) (HV.addw rfl rfl) ?_
    refine AL.val rfl (.inl rfl) (HV.addw rfl rfl) ?_
    refine AL.val rfl (.inl rfl) (HV.nc rfl) ?_
    refine AL.val rfl (.inl rfl) (HV.fa fl61_2 rfl) ?_
    refine AL.w0 (.inl rfl) (WV.st rfl rfl va59 rfl hb32 (Nat.le_of_ble_eq_true rfl) (one_cons rfl one_nil)) ?_
    rintro _ H33 ⟨hx34, hb35⟩
    have B36 := But.trans B28 hx34
    have q37 := Nat.le_trans q30 hx34.bd
    have ho38 := ho31.but hx34 (fun _ f _ => f.elim) (fun z_ hz_ => by rw [hz_]; exact hb32.w)
    have hb39 : At W H33 bq ⟨61, [vc, .int .i64 (a + 1), .int .u64 (IntKind.u64.wrap ((IntKind.u64.wrap ((IntKind.u64.wrap (s * 6364136223846793005)) + (IntKind.u64.wrap 0))) + 1442695040888963407))], 3⟩ := hb35
    refine AL.nx ?_
    refine AW.seq ?_
    refine AW.seq ?_
    refine AW.draw' [0, 1, 3, 7, 0, 16, 48, 112, 240, 511] mixed (by rfl) ?_
    refine Dr.read 0 _ 44 _ rfl rfl rfl rfl rfl (RV.of (by intro _ _ h; cases h) (.inl rfl) (fun _ xd => HV.mv rfl)) ?_
    refine Dr.read 1 _ 45 _ rfl rfl rfl rfl rfl (RV.of (by intro _ _ h; cases h) (.inl rfl) (fun _ xd => HV.nc rfl)) ?_
    refine Dr.read 2 _ 46 _ rfl rfl rfl rfl rfl (RV.of (by intro _ _ h; cases h) (.inl rfl) (fun _ xd => HV.fa fl61_1 rfl)) ?_
    refine Dr.read 3 _ 47 _ rfl rfl rfl rfl rfl (RV.of (by intro _ _ h; cases h) (.inl rfl) (fun _ xd => HV.ld rfl va3 (rdc_ext xd (at_cell_add (j := 1) hb39 rfl)))) ?_
    refine Dr.read 4 _ 48 _ rfl rfl rfl rfl rfl (RV.of (by intro _ _ h; cases h) (.inl rfl) (fun _ xd => HV.mv rfl)) ?_
    refine Dr.read 5 _ 49 _ rfl rfl rfl rfl rfl (RV.of (by intro _ _ h; cases h) (.inl rfl) (fun _ xd => HV.nc rfl)) ?_
    refine Dr.read 6 _ 50 _ rfl rfl rfl rfl rfl (RV.of (by intro _ _ h; cases h) (.inl rfl) (fun _ xd => HV.fa fl61_0 rfl)) ?_
    refine Dr.read 7 _ 51 _ rfl rfl rfl rfl rfl (RV.of (by intro _ _ h; cases h) (.inl rfl) (fun _ xd => HV.ld rfl va22 (rdc_ext xd (at_cell hb39 rfl)))) ?_
    refine Dr.read 8 _ 52 _ rfl rfl rfl rfl rfl (RV.of (by intro _ _ h; cases h) (.inl rfl) (fun _ xd => HV.len Tryz.underlying22 rfl ho38.isSl)) ?_
    refine Dr.read 9 _ 53 _ rfl rfl rfl rfl rfl (RV.of (by intro _ _ h; cases h) (.inl rfl) (fun _ xd => HV.lei rfl rfl)) ?_
    refine Dr.fin rfl ?_
    refine nrm_and ?_
    refine AW.ifd rfl (fun c40 => ?_) (fun c40 => ?_)
    · -- then
      refine AW.rs ?_
      refine AL.val rfl (.inl rfl) (HV.mv rfl) ?_
      refine AL.val rfl (.inl rfl) (HV.as rfl) ?_
      refine AL.nx ?_
      refine AW.ret ?_
      refine ret_and ?_
      refine post_one rfl rfl ?_ (.inr rfl)
      exact ⟨⟨_, _, _, rfl, by first | exact bt_255 _ | omega, by omega, hb39⟩, B36⟩
    · -- else
      refine AW.skip ?_
      refine nrm_and ?_
      refine AW.rs ?_
      refine AL.val rfl (.inl rfl) (HV.mv rfl) ?_
      refine AL.val rfl (.inl rfl) (HV.nc rfl) ?_
      refine AL.val rfl (.inl rfl) (HV.fa fl61_2 rfl) ?_
      refine AL.val rfl (.inl rfl) (HV.ld rfl va59 (at_cell_add (j := 2) hb39 rfl)) ?_
      refine AL.val rfl (.inl rfl) (HV.shr rfl rfl (by omega)) ?_
      refine AL.val rfl (.inl rfl) (HV.bits (by simp) rfl rfl) ?_
      refine AL.val rfl (.inl rfl) (HV.cve (by rw [Tryz.underlying59]; rfl) Tryz.underlying2 rfl (i64_id (bt_255 _))) ?_
      refine AL.val rfl (.inl rfl) (HV.as rfl) ?_
      refine AL.nx ?_
      refine AW.ret ?_
      refine post_one rfl rfl ?_ (.inr rfl)
      exact ⟨⟨_, _, _, rfl, by first | exact bt_255 _ | omega, by omega, hb39⟩, B36⟩

set_option maxRecDepth 100000 in
theorem pick_ok {vc : Value} {l : List Int} {bq : Nat} {a s : Int} (hr : RdK kU8 W H (fun _ => False) vc l) (hby : bytes l) (hbq : At W H bq ⟨61, [vc, .int .i64 a, .int .u64 s], 3⟩) (ha : 0 ≤ a ∧ a ≤ 1000000) (n : Int) : ACalls Tryz.prog W 22 #[.pointer (some ⟨bq, 0, none⟩), .int .i64 n] H (fun r H' => (∃ q a' s', r = .int .i64 q ∧ (0 ≤ q ∧ (1 ≤ n → q < n)) ∧ (a ≤ a' ∧ a' ≤ a + 2) ∧ At W H' bq ⟨61, [vc, .int .i64 a', .int .u64 s'], 3⟩) ∧ But (fun x => x = bq) H H') := by
  refine ACalls.of (args := [.pointer (some ⟨bq, 0, none⟩), .int .i64 n]) Tryz.func22 rfl rfl ?_
  have X0 := Ext.refl H
  have BT0 := But.refl (fun x => x = bq) H
  refine AW.rs ?_
  refine AL.val rfl (.inl rfl) (HV.as rfl) ?_
  refine AL.nx ?_
  refine AW.seq ?_
  refine AW.rs ?_
  refine AL.val rfl (.inl rfl) (HV.mv rfl) ?_
  refine AL.val rfl (.inl rfl) (HV.lei rfl rfl) ?_
  refine AL.nx ?_
  refine AW.ifd rfl (fun c1 => ?_) (fun c1 => ?_)
  · -- then
    refine AW.rs ?_
    refine AL.val rfl (.inl rfl) (HV.as rfl) ?_
    refine AL.nx ?_
    refine AW.ret ?_
    refine ret_and ?_
    refine post_one rfl rfl ?_ (.inr rfl)
    exact ⟨⟨_, _, _, rfl, by omega, by omega, hbq⟩, BT0⟩
  · -- else
    refine AW.skip ?_
    refine nrm_and ?_
    refine AW.rs ?_
    refine AL.val rfl (.inl rfl) (HV.mv rfl) ?_
    refine AL.w rfl (.inl rfl) (WV.call fn40 rfl (next_ok hr hby hbq (by omega))) ?_
    rintro _ H2 ⟨⟨q3, a4, s5, rfl, h6, h7, hb8⟩, hx9⟩
    have B10 := But.trans BT0 hx9
    have q12 := Nat.le_trans X0.bd hx9.bd
    have ho13 := hr.but hx9 (fun _ f _ => f.elim) (fun z_ hz_ => by rw [hz_]; exact hbq.w)
    refine AL.val rfl (.inl rfl) (HV.as rfl) ?_
    refine AL.nx ?_
    refine AW.seq ?_
    refine AW.rs ?_
    refine AL.val rfl (.inl rfl) (HV.mv rfl) ?_
    refine AL.val rfl (.inl rfl) (HV.gti rfl rfl) ?_
    refine AL.nx ?_
    refine AW.ifd rfl (fun c14 => ?_) (fun c14 => ?_)
    · -- then
      refine AW.reg ?_
      refine AL.val rfl (.inl rfl) (HV.mv rfl) ?_
      refine AL.val rfl (.inl rfl) (HV.mul rfl rfl (by omega)) ?_
      refine AL.val rfl (.inl rfl) (HV.mv rfl) ?_
      refine AL.w rfl (.inl rfl) (WV.call fn40 rfl (next_ok ho13 hby hb8 (by omega))) ?_
      rintro _ H15 ⟨⟨q16, a17, s18, rfl, h19, h20, hb21⟩, hx22⟩
      have B23 := But.trans B10 hx22
      have q24 := Nat.le_trans q12 hx22.bd
      have ho25 := ho13.but hx22 (fun _ f _ => f.elim) (fun z_ hz_ => by rw [hz_]; exact hb8.w)
      refine AL.val rfl (.inl rfl) (HV.add rfl rfl (by omega)) ?_
      refine AL.val rfl (.inl rfl) (HV.as rfl) ?_
      refine AL.nil ?_
      refine nrm_and ?_
      refine AW.rs ?_
      refine AL.val rfl (.inl rfl) (HV.mv rfl) ?_
      refine AL.val rfl (.inl rfl) (HV.mv rfl) ?_
      refine AL.val rfl (.inl rfl) (HV.rem rfl rfl (by omega)) ?_
      refine AL.val rfl (.inl rfl) (HV.as rfl) ?_
      refine AL.nx ?_
      refine AW.ret ?_
      refine post_one rfl rfl ?_ (.inr rfl)
      exact ⟨⟨_, _, _, rfl, ⟨(emod_bd (by omega) _).1, fun _ => (emod_bd (by omega) _).2⟩, by omega, hb21⟩, B23⟩
    · -- else
      refine AW.skip ?_
      refine nrm_and ?_
      refine AW.rs ?_
      refine AL.val rfl (.inl rfl) (HV.mv rfl) ?_
      refine AL.val rfl (.inl rfl) (HV.mv rfl) ?_
      refine AL.val rfl (.inl rfl) (HV.rem rfl rfl (by omega)) ?_
      refine AL.val rfl (.inl rfl) (HV.as rfl) ?_
      refine AL.nx ?_
      refine AW.ret ?_
      refine post_one rfl rfl ?_ (.inr rfl)
      exact ⟨⟨_, _, _, rfl, ⟨(emod_bd (by omega) _).1, fun _ => (emod_bd (by omega) _).2⟩, by omega, hb8⟩, B10⟩

set_option maxRecDepth 100000 in
theorem among_ok {vc : Value} {l : List Int} {bq : Nat} {a s : Int} (hr : RdK kU8 W H (fun _ => False) vc l) (hby : bytes l) (hbq : At W H bq ⟨61, [vc, .int .i64 a, .int .u64 s], 3⟩) (ha : 0 ≤ a ∧ a ≤ 1000000) {vm : Value} {m : List Int} {ok2 : Nat → Prop} (hr2 : RdK kI W H ok2 vm m) (hne : ∀ z, ok2 z → z ≠ bq) (hm : 0 < m.length) : ACalls Tryz.prog W 19 #[.pointer (some ⟨bq, 0, none⟩), vm] H (fun r H' => (∃ q a' s', r = .int .i64 q ∧ (q ∈ m) ∧ (a ≤ a' ∧ a' ≤ a + 2) ∧ At W H' bq ⟨61, [vc, .int .i64 a', .int .u64 s'], 3⟩) ∧ But (fun x => x = bq) H H') := by
  refine ACalls.of (args := [.pointer (some ⟨bq, 0, none⟩), vm]) Tryz.func19 rfl rfl ?_
  have X0 := Ext.refl H
  have hmM := hr2.max
  have BT0 := But.refl (fun x => x = bq) H
  refine AW.rs ?_
  refine AL.val rfl (.inl rfl) (HV.as rfl) ?_
  refine AL.nx ?_
  refine AW.rs ?_
  refine AL.val rfl (.inl rfl) (HV.mv rfl) ?_
  refine AL.val rfl (.inl rfl) (HV.mv rfl) ?_
  refine AL.val rfl (.inl rfl) (HV.mv rfl) ?_
  refine AL.val rfl (.inl rfl) (HV.len Tryz.underlying25 rfl hr2.isSl) ?_
  refine AL.w rfl (.inl rfl) (WV.call fn22 rfl (pick_ok hr hby hbq (by omega) (m.length : Int))) ?_
  rintro _ H1 ⟨⟨q2, a3, s4, rfl, h5, h6, hb7⟩, hx8⟩
  have B9 := But.trans BT0 hx8
  have q11 := Nat.le_trans X0.bd hx8.bd
  have ho12 := hr.but hx8 (fun _ f _ => f.elim) (fun z_ hz_ => by rw [hz_]; exact hbq.w)
  have ho13 := hr2.but hx8 (fun z hz _ e => hne z hz e) (fun z_ hz_ => by rw [hz_]; exact hbq.w)
  have X21 := Ext.refl H1
  obtain ⟨p14, z15, cs16, hz17, hK18, hC19, hP20⟩ := RdK.ix (q := q2) ho13 sl25 (by have := h5; omega) (by have := h5; omega)
  obtain rfl : cs16 = [.int .i64 z15] := hK18
  refine AL.val rfl (.inl rfl) (hP20 rfl rfl) ?_
  refine AL.val rfl (.inl rfl) (HV.ld rfl va2 (cells_first hC19 rfl)) ?_
  refine AL.val rfl (.inl rfl) (HV.as rfl) ?_
  refine AL.nx ?_
  refine AW.ret ?_
  refine post_one rfl rfl ?_ (.inr rfl)
  exact ⟨⟨_, _, _, rfl, List.mem_of_getElem? hz17, by omega, hb7⟩, B9⟩

set_option maxRecDepth 100000 in
theorem from_ok {vc : Value} {l : List Int} (hr : RdK kU8 W H (fun _ => False) vc l) : ACalls Tryz.prog W 18 #[vc] H (fun r H' => ∃ b, r = .pointer (some ⟨b, 0, none⟩) ∧ H.bd ≤ b ∧ At W H' b ⟨61, [vc, .int .i64 0, .int .u64 0], 3⟩ ∧ Ext H H') := by
  refine ACalls.of (args := [vc]) Tryz.func18 rfl rfl ?_
  have X0 := Ext.refl H
  have hm1 := hr.max
  refine AW.rs ?_
  refine AL.val rfl (.inl rfl) (HV.as rfl) ?_
  refine AL.nx ?_
  refine AW.rs ?_
  refine AL.val rfl (.inl rfl) (HV.mv rfl) ?_
  refine AL.val rfl (.inl rfl) (HV.bd rfl (bd61_0 hr.isSl)) ?_
  refine AL.w rfl (.inl rfl) (WV.bx rfl rfl) ?_
  rintro _ H3 ⟨b2, rfl, hx4, hn5, hb6⟩
  have o7 := Nat.le_trans X0.bd hn5
  have X8 := Ext.trans X0 hx4
  have X9 := Ext.refl H3
  refine AL.val rfl (.inl rfl) (HV.as rfl) ?_
  refine AL.nx ?_
  refine AW.ret ?_
  refine post_one rfl rfl ?_ (.inr rfl)
  exact ⟨_, rfl, o7, hb6, X8⟩

set_option maxRecDepth 100000 in
theorem p6Prime_ok {vc : Value} {l : List Int} (hr : RdK kU8 W H (fun _ => False) vc l) (hby : bytes l) : ACalls Tryz.prog W 5 #[vc] H (fun r H' => (∃ q, r = .int .i64 q ∧ q ∈ ([5, 7, 11, 13] : List Int)) ∧ Ext H H') := by
  refine ACalls.of (args := [vc]) Tryz.func5 rfl rfl ?_
  have X0 := Ext.refl H
  have hm1 := hr.max
  refine AW.rs ?_
  refine AL.val rfl (.inl rfl) (HV.as rfl) ?_
  refine AL.nx ?_
  refine AW.rs ?_
  refine AL.val rfl (.inl rfl) (HV.mv rfl) ?_
  refine AL.w rfl (.inl rfl) (WV.call fn18 rfl (from_ok hr)) ?_
  rintro _ H3 ⟨b2, rfl, hn4, hb5, hx6⟩
  have o7 := Nat.le_trans X0.bd hn4
  have X8 := Ext.trans X0 hx6
  have X9 := Ext.refl H3
  refine AL.val rfl (.inl rfl) (HV.as rfl) ?_
  refine AL.nx ?_
  refine AW.rs ?_
  refine AL.val rfl (.inl rfl) (HV.mv rfl) ?_
  have y10 := hb5.lt
  have o11 := X8.bd
  have o12 := X9.bd
  refine AL.w rfl (.inl rfl) (WV.bsK (K := kI) (l := ([5, 7, 11, 13] : List Int)) (css := [[.int .i64 5], [.int .i64 7], [.int .i64 11], [.int .i64 13]]) sl25 rfl rfl (by first | rfl | (simp [Instr.fill, Value.cells, kI, kB, kU, kU8, kS, Kd.sc]; done) | (simp [Instr.fill, Value.cells, kI, kB, kU, kU8, kS, Kd.sc, rng1, rng2, rng3, rng4, kP])) rfl (segs_cons rfl (segs_cons rfl (segs_cons rfl (segs_cons rfl segs_nil))))) ?_
  rintro v13 H14 ⟨hx15, ho16⟩
  have X17 := Ext.trans X8 hx15
  have X18 := Ext.trans X9 hx15
  have hb19 := hb5.ext hx15
  refine AL.w rfl (.inl rfl) (WV.call fn19 rfl (among_ok (hr.ext X17) hby hb19 (by omega) ho16.rd (fun z hz e => by have q1 : H3.bd ≤ z := hz; omega) (by decide))) ?_
  rintro _ H21 ⟨⟨q22, a23, s24, rfl, h25, h26, hb27⟩, hx28⟩
  have X29 := Ext.thru X17 hx28 (fun z_ hz_ => by rw [hz_]; exact o7)
  have ho31 := ho16.but hx28 (fun b hb _ e => by have hb' : H3.bd ≤ b := hb; have e' : b = b2 := e; omega) (fun z_ hz_ => by rw [hz_]; exact hb19.w)
  refine AL.val rfl (.inl rfl) (HV.as rfl) ?_
  refine AL.nx ?_
  refine AW.ret ?_
  refine post_one rfl rfl ?_ (.inr rfl)
  exact ⟨⟨_, rfl, h25⟩, X29⟩

set_option maxRecDepth 100000 in
theorem p6Pick_ok {vc : Value} {l : List Int} (hr : RdK kU8 W H (fun _ => False) vc l) (hby : bytes l) (n : Int) : ACalls Tryz.prog W 7 #[vc, .int .i64 n] H (fun r H' => (∃ q, r = .int .i64 q ∧ (0 ≤ q ∧ (1 ≤ n → q < n))) ∧ Ext H H') := by
  refine ACalls.of (args := [vc, .int .i64 n]) Tryz.func7 rfl rfl ?_
  have X0 := Ext.refl H
  have hm1 := hr.max
  refine AW.rs ?_
  refine AL.val rfl (.inl rfl) (HV.as rfl) ?_
  refine AL.nx ?_
  refine AW.rs ?_
  refine AL.val rfl (.inl rfl) (HV.mv rfl) ?_
  refine AL.w rfl (.inl rfl) (WV.call fn18 rfl (from_ok hr)) ?_
  rintro _ H3 ⟨b2, rfl, hn4, hb5, hx6⟩
  have o7 := Nat.le_trans X0.bd hn4
  have X8 := Ext.trans X0 hx6
  have X9 := Ext.refl H3
  refine AL.val rfl (.inl rfl) (HV.mv rfl) ?_
  refine AL.w rfl (.inl rfl) (WV.call fn22 rfl (pick_ok (hr.ext X8) hby hb5 (by omega) n)) ?_
  rintro _ H10 ⟨⟨q11, a12, s13, rfl, h14, h15, hb16⟩, hx17⟩
  have X18 := Ext.thru X8 hx17 (fun z_ hz_ => by rw [hz_]; exact o7)
  refine AL.val rfl (.inl rfl) (HV.as rfl) ?_
  refine AL.nx ?_
  refine AW.ret ?_
  refine post_one rfl rfl ?_ (.inr rfl)
  exact ⟨⟨_, rfl, h14⟩, X18⟩

set_option maxRecDepth 100000 in
theorem l00Max_ok (a b : Int) : ACalls Tryz.prog W 39 #[.int .i64 a, .int .i64 b] H (fun r H' => r = .int .i64 (max a b) ∧ Ext H H') := by
  refine ACalls.of (args := [.int .i64 a, .int .i64 b]) Tryz.func39 rfl rfl ?_
  have X0 := Ext.refl H
  refine AW.rs ?_
  refine AL.val rfl (.inl rfl) (HV.as rfl) ?_
  refine AL.nx ?_
  refine AW.seq ?_
  refine AW.rs ?_
  refine AL.val rfl (.inl rfl) (HV.mv rfl) ?_
  refine AL.val rfl (.inl rfl) (HV.mv rfl) ?_
  refine AL.val rfl (.inl rfl) (HV.gti rfl rfl) ?_
  refine AL.nx ?_
  refine AW.ifd rfl (fun c1 => ?_) (fun c1 => ?_)
  · -- then
    refine AW.rs ?_
    refine AL.val rfl (.inl rfl) (HV.mv rfl) ?_
    refine AL.val rfl (.inl rfl) (HV.as rfl) ?_
    refine AL.nx ?_
    refine AW.ret ?_
    refine ret_and ?_
    refine post_one rfl rfl ?_ (.inr rfl)
    exact ⟨congrArg (Value.int .i64) (by omega), X0⟩
  · -- else
    refine AW.skip ?_
    refine nrm_and ?_
    refine AW.rs ?_
    refine AL.val rfl (.inl rfl) (HV.mv rfl) ?_
    refine AL.val rfl (.inl rfl) (HV.as rfl) ?_
    refine AL.nx ?_
    refine AW.ret ?_
    refine post_one rfl rfl ?_ (.inr rfl)
    exact ⟨congrArg (Value.int .i64) (by omega), X0⟩

set_option maxRecDepth 100000 in
theorem many_ok {vc : Value} {l : List Int} {bq : Nat} {a s : Int} (hr : RdK kU8 W H (fun _ => False) vc l) (hby : bytes l) (hbq : At W H bq ⟨61, [vc, .int .i64 a, .int .u64 s], 3⟩) (ha : 0 ≤ a ∧ a ≤ 100000) (p n : Int) (hp : 2 ≤ p) (hn : n ≤ 1000) : ACalls Tryz.prog W 21 #[.pointer (some ⟨bq, 0, none⟩), .int .i64 p, .int .i64 n] H (fun r H' => (∃ k a' s', OwnK kI 2 W H' (fun b => H.bd ≤ b) r k ∧ k.length = n.toNat ∧ elems p k ∧ (a ≤ a' ∧ a' ≤ a + 2 * n.toNat) ∧ At W H' bq ⟨61, [vc, .int .i64 a', .int .u64 s'], 3⟩) ∧ But (fun x => x = bq) H H') := by
  refine ACalls.of (args := [.pointer (some ⟨bq, 0, none⟩), .int .i64 p, .int .i64 n]) Tryz.func21 rfl rfl ?_
  have X0 := Ext.refl H
  have BT0 := But.refl (fun x => x = bq) H
  refine AW.rs ?_
  refine AL.val rfl (.inl rfl) (HV.as rfl) ?_
  refine AL.nx ?_
  refine AW.rs ?_
  have y1 := hbq.lt
  have o2 := X0.bd
  have o3 := BT0.bd
  refine AL.w rfl (.inl rfl) (WV.bsK (K := kI) (l := ([] : List Int)) (css := []) sl25 rfl rfl (by first | rfl | (simp [Instr.fill, Value.cells, kI, kB, kU, kU8, kS, Kd.sc]; done) | (simp [Instr.fill, Value.cells, kI, kB, kU, kU8, kS, Kd.sc, rng1, rng2, rng3, rng4, kP])) rfl segs_nil) ?_
  rintro v4 H5 ⟨hx6, ho7⟩
  have B8 := But.trans BT0 (Ext.but hx6 _)
  have X9 := Ext.trans X0 hx6
  have ho10 := hr.ext hx6
  have hb11 := hbq.ext hx6
  refine AL.val rfl (.inl rfl) (HV.as rfl) ?_
  refine AL.nx ?_
  refine AW.seq ?_
  refine AW.rs ?_
  refine AL.val rfl (.inl rfl) (HV.as rfl) ?_
  refine AL.nx ?_
  refine AW.block ?_
  refine AW.loop (σ := Nat × Value × List Int × Int × Int) (fun ⟨i, vv, k, a1, s1⟩ => [(0, .pointer (some ⟨bq, 0, none⟩)), (1, .int .i64 p), (2, .int .i64 n), (6, (.slice none 0 0)), (7, vv), (8, .int .i64 (i : Int))]) (fun ⟨i, vv, k, a1, s1⟩ H' => But (fun x => x = bq) H H' ∧ RdK kU8 W H' (fun _ => False) vc l ∧ i ≤ n.toNat ∧ k.length = i ∧ elems p k ∧ (a ≤ a1 ∧ a1 ≤ a + 2 * (i : Int)) ∧ OwnK kI 2 W H' (fun b => H.bd ≤ b) vv k ∧ At W H' bq ⟨61, [vc, .int .i64 a1, .int .u64 s1], 3⟩ ∧ True) (fun ⟨i, vv, k, a1, s1⟩ => n.toNat - i) (0, v4, (([] : List Int) : List Int), a, s) ⟨B8, ho10, Nat.zero_le _, rfl, (fun j hj => absurd hj (Nat.not_lt_zero _)), by omega, ho7, hb11, trivial⟩ ⟨rfl, rfl, rfl, rfl, rfl, rfl, trivial⟩ ?_
  rintro ⟨i, vv, k, a1, s1⟩ H13 ⟨B14, ho15, hi, hk2, hel, ha1, hoL, hbL, _⟩
  refine AW.seq ?_
  refine AW.rs ?_
  refine AL.val rfl (.inl rfl) (HV.mv rfl) ?_
  refine AL.val rfl (.inl rfl) (HV.mv rfl) ?_
  refine AL.val rfl (.inl rfl) (HV.lti rfl rfl) ?_
  refine AL.nx ?_
  refine AW.ifd rfl (fun c16 => ?_) (fun c16 => ?_)
  · -- then
    refine AW.skip ?_
    refine nrm_and ?_
    refine AW.seq ?_
    refine AW.block ?_
    refine AW.reg ?_
    refine AL.val rfl (.inl rfl) (HV.mv rfl) ?_
    refine AL.val rfl (.inl rfl) (HV.mv rfl) ?_
    refine AL.val rfl (.inl rfl) (HV.mv rfl) ?_
    refine AL.w rfl (.inl rfl) (WV.call fn39 rfl (l00Max_ok (W := W) p 1)) ?_
    rintro _ H17 ⟨rfl, hx18⟩
    have B19 := But.trans B14 (Ext.but hx18 _)
    have ho20 := hoL.ext hx18
    have ho21 := ho15.ext hx18
    have hb22 := hbL.ext hx18
    refine AL.w rfl (.inl rfl) (WV.call fn22 rfl (pick_ok ho21 hby hb22 (by omega) (max p 1))) ?_
    rintro _ H23 ⟨⟨q24, a25, s26, rfl, h27, h28, hb29⟩, hx30⟩
    have B31 := But.trans B19 hx30
    have ho32 := ho20.but hx30 (fun b hb _ e => by have hb' : H.bd ≤ b := hb; have e' : b = bq := e; omega) (fun z_ hz_ => by rw [hz_]; exact hb22.w)
    have ho33 := ho21.but hx30 (fun _ f _ => f.elim) (fun z_ hz_ => by rw [hz_]; exact hb22.w)
    have X34 := Ext.refl H23
    have y35 := hb29.lt
    have o36 := X34.bd
    have o37 := B31.bd
    have a38 := ho32.ltb
    refine AL.w rfl (.inl rfl) (WV.bsK (K := kI) (l := ([q24] : List Int)) (css := [[.int .i64 q24]]) sl25 rfl rfl (by first | rfl | (simp [Instr.fill, Value.cells, kI, kB, kU, kU8, kS, Kd.sc]; done) | (simp [Instr.fill, Value.cells, kI, kB, kU, kU8, kS, Kd.sc, rng1, rng2, rng3, rng4, kP])) rfl (segs_cons rfl segs_nil)) ?_
    rintro v39 H40 ⟨hx41, ho42⟩
    have B43 := But.trans B31 (Ext.but hx41 _)
    have X44 := Ext.trans X34 hx41
    have ho45 := ho32.ext hx41
    have ho46 := ho33.ext hx41
    have hb47 := hb29.ext hx41
    have X49 := Ext.refl H40
    refine AL.w rfl (.inl rfl) (WV.apk sl25 rfl rfl ho45 ho42.rd (by rw [hk2]; simp; omega) (by rw [hk2]; simp; omega) (fun b hb _ e => Nat.lt_irrefl _ (Nat.lt_of_lt_of_le (a38 b e) hb))) ?_
    rintro v50 H51 ⟨hx52, ho53, hb54⟩
    have ho55 := ho53.narrow (ok' := fun b => H.bd ≤ b) kI_flat (fun b q => (hb54 b q).elim (fun e => (ho45.blk b e).1) (fun e => Nat.le_trans B43.bd e))
    have B56 := But.thru B43 hx52 (fun b hb => Nat.le_trans o3 (ho45.blk b hb).1)
    have q58 := Nat.le_trans X44.bd hx52.bd
    have q60 := Nat.le_trans X49.bd hx52.bd
    have ho61 := ho46.but hx52 (fun _ f _ => f.elim) (fun b hb => (ho45.blk b hb).2.2)
    have hb63 := hb47.but hx52 (fun e => by have q : H.bd ≤ _ := (ho45.blk _ e).1; omega)
    refine AL.val rfl (.inl rfl) (HV.as rfl) ?_
    refine AL.nil ?_
    refine nrm_blk (nrm_and ?_)
    refine AW.reg ?_
    refine AL.val rfl (.inl rfl) (HV.mv rfl) ?_
    refine AL.val rfl (.inl rfl) (HV.add rfl rfl (by omega)) ?_
    refine AL.val rfl (.inl rfl) (HV.as rfl) ?_
    refine AL.nil ?_
    refine nrm_and ?_
    exact ⟨(i + 1, v50, (k ++ (([q24] : List Int) : List Int)), a25, s26), ⟨B56, ho61, by omega, by simp [hk2], elems_snoc hel (by have := h27; omega), by omega, ho55, hb63, trivial⟩, by first | omega | (dsimp only; omega), ⟨rfl, rfl, rfl, rfl, rfl, rfl, trivial⟩⟩
  · -- else
    refine AW.exit ?_
    refine ex_and (ex_and (ex_blk ?_))
    refine nrm_and ?_
    refine AW.rs ?_
    refine AL.val rfl (.inl rfl) (HV.mv rfl) ?_
    refine AL.val rfl (.inl rfl) (HV.as rfl) ?_
    refine AL.nx ?_
    refine AW.ret ?_
    refine post_one rfl rfl ?_ (.inr rfl)
    exact ⟨⟨_, _, _, hoL.okk (fun b hb _ => Nat.le_trans o3 hb), by omega, hel, by omega, hbL⟩, B14⟩

set_option maxRecDepth 100000 in
theorem cut_ok {v : Value} {l : List Int} {ok : Nat → Prop} (hr : RdK kI W H ok v l) (hl : l.length ≤ 1048576) : ACalls Tryz.prog W 20 #[v] H (fun r H' => (∃ i : Nat, (i ≤ l.length ∧ (i = 0 ∨ l.getD (i - 1) 0 ≠ 0)) ∧ OwnK kI 2 W H' (fun b => H.bd ≤ b) r (l.take i)) ∧ Ext H H') := by
  refine ACalls.of (args := [v]) Tryz.func20 rfl rfl ?_
  have X0 := Ext.refl H
  have hm1 := hr.max
  refine AW.rs ?_
  refine AL.val rfl (.inl rfl) (HV.as rfl) ?_
  refine AL.nx ?_
  refine AW.rs ?_
  refine AL.val rfl (.inl rfl) (HV.mv rfl) ?_
  refine AL.val rfl (.inl rfl) (HV.len Tryz.underlying25 rfl hr.isSl) ?_
  refine AL.val rfl (.inl rfl) (HV.as rfl) ?_
  refine AL.nx ?_
  refine AW.seq ?_
  refine AW.block ?_
  refine AW.loop (σ := Nat × Int) (fun ⟨i, x⟩ => [(0, v), (2, (.slice none 0 0)), (3, .int .i64 x)]) (fun ⟨i, x⟩ H' => Ext H H' ∧ i ≤ l.length ∧ x = (i : Int) ∧ True) (fun ⟨i, x⟩ => i) (l.length, (l.length : Int)) ⟨X0, Nat.le_refl _, rfl, trivial⟩ ⟨rfl, rfl, rfl, trivial⟩ ?_
  rintro ⟨i, x⟩ H2 ⟨X3, hi, hx, _⟩
  refine AW.seq ?_
  refine AW.rs ?_
  refine AL.val rfl (.inl rfl) (HV.mv rfl) ?_
  refine AL.val rfl (.inl rfl) (HV.gti rfl rfl) ?_
  refine AL.val rfl (.inl rfl) (HV.mv rfl) ?_
  by_cases c4 : x > 0
  · -- true
    have c4_ : decide (x > 0) = true := decide_eq_true c4
    rw [c4_]
    refine AL.val rfl (.inr ⟨_, _, _, rfl, rfl, rfl⟩) (HV.mv rfl) ?_
    refine AL.val rfl (.inr ⟨_, _, _, rfl, rfl, rfl⟩) (HV.mv rfl) ?_
    refine AL.val rfl (.inr ⟨_, _, _, rfl, rfl, rfl⟩) (HV.sub rfl rfl (by omega)) ?_
    obtain ⟨p5, z6, cs7, hz8, hK9, hC10, hP11⟩ := RdK.ix (q := x - 1) hr sl25 (by omega) (by omega)
    obtain rfl : cs7 = [.int .i64 z6] := hK9
    refine AL.val rfl (.inr ⟨_, _, _, rfl, rfl, rfl⟩) (hP11 rfl rfl) ?_
    refine AL.val rfl (.inr ⟨_, _, _, rfl, rfl, rfl⟩) (HV.ld rfl va2 (cells_first (hC10.ext X3) rfl)) ?_
    refine AL.val rfl (.inr ⟨_, _, _, rfl, rfl, rfl⟩) (HV.eqi rfl rfl) ?_
    refine AL.val rfl (.inl rfl) (HV.pickT rfl rfl) ?_
    refine AL.nx ?_
    refine AW.ifd rfl (fun c12 => ?_) (fun c12 => ?_)
    · -- then
      refine AW.skip ?_
      refine nrm_and ?_
      refine AW.block ?_
      refine AW.reg ?_
      refine AL.val rfl (.inl rfl) (HV.mv rfl) ?_
      refine AL.val rfl (.inl rfl) (HV.sub rfl rfl (by omega)) ?_
      refine AL.val rfl (.inl rfl) (HV.as rfl) ?_
      refine AL.nil ?_
      refine nrm_blk (nrm_and ?_)
      exact ⟨(i - 1, x - 1), ⟨X3, by omega, by omega, trivial⟩, by first | omega | (dsimp only; omega), ⟨rfl, rfl, rfl, trivial⟩⟩
    · -- else
      refine AW.exit ?_
      refine ex_and (ex_and (ex_blk ?_))
      refine nrm_and ?_
      refine AW.rs ?_
      refine AL.val rfl (.inl rfl) (HV.mv rfl) ?_
      refine AL.val rfl (.inl rfl) (HV.mv rfl) ?_
      have X16 := Ext.refl H2
      obtain ⟨v13, hr14, hP15⟩ := RdK.cutH (q := x) (hr.ext X3) sl25 (by omega) (by omega)
      refine AL.val rfl (.inl rfl) (hP15 rfl rfl) ?_
      have o17 := X3.bd
      have o18 := X16.bd
      refine AL.w rfl (.inl rfl) (WV.call fn38 rfl (l00Own_ok hr14 (by simp; omega))) ?_
      rintro v19 H20 ⟨hx21, ho22⟩
      have X23 := Ext.trans X3 hx21
      have X24 := Ext.trans X16 hx21
      refine AL.val rfl (.inl rfl) (HV.as rfl) ?_
      refine AL.nx ?_
      refine AW.ret ?_
      refine post_one rfl rfl ?_ (.inr rfl)
      exact ⟨⟨i, ⟨hi, .inr (by rw [(gd hz8 (by omega) : l.getD (i - 1) 0 = z6)]; assumption)⟩, by have q := ho22.okk (fun b hb _ => Nat.le_trans o17 hb); rw [hx, Int.toNat_natCast] at q; exact q⟩, X23⟩
  · -- false
    have c4_ : decide (x > 0) = false := decide_eq_false c4
    rw [c4_]
    refine AL.off rfl rfl (by decide) rfl ?_
    refine AL.off rfl rfl (by decide) rfl ?_
    refine AL.off rfl rfl (by decide) rfl ?_
    refine AL.off rfl rfl (by decide) rfl ?_
    refine AL.off rfl rfl (by decide) rfl ?_
    refine AL.off rfl rfl (by decide) rfl ?_
    refine AL.val rfl (.inl rfl) (HV.pickF rfl rfl) ?_
    refine AL.nx ?_
    refine AW.cond rfl (fun h => by cases h) (fun _ => ?_)
    refine AW.exit ?_
    refine ex_and (ex_and (ex_blk ?_))
    refine nrm_and ?_
    refine AW.rs ?_
    refine AL.val rfl (.inl rfl) (HV.mv rfl) ?_
    refine AL.val rfl (.inl rfl) (HV.mv rfl) ?_
    have X30 := Ext.refl H2
    obtain ⟨v27, hr28, hP29⟩ := RdK.cutH (q := x) (hr.ext X3) sl25 (by omega) (by omega)
    refine AL.val rfl (.inl rfl) (hP29 rfl rfl) ?_
    have o31 := X3.bd
    have o32 := X30.bd
    refine AL.w rfl (.inl rfl) (WV.call fn38 rfl (l00Own_ok hr28 (by simp; omega))) ?_
    rintro v33 H34 ⟨hx35, ho36⟩
    have X37 := Ext.trans X3 hx35
    have X38 := Ext.trans X30 hx35
    refine AL.val rfl (.inl rfl) (HV.as rfl) ?_
    refine AL.nx ?_
    refine AW.ret ?_
    refine post_one rfl rfl ?_ (.inr rfl)
    exact ⟨⟨i, ⟨hi, .inl (by omega)⟩, by have q := ho36.okk (fun b hb _ => Nat.le_trans o31 hb); rw [hx, Int.toNat_natCast] at q; exact q⟩, X37⟩

set_option maxRecDepth 100000 in
theorem p6Curve_ok {vc : Value} {l : List Int} (hr : RdK kU8 W H (fun _ => False) vc l) (hby : bytes l) (p n : Int) (hp : 2 ≤ p) (hn : 0 ≤ n ∧ n ≤ 6) : ACalls Tryz.prog W 6 #[vc, .int .i64 p, .int .i64 n] H (fun r H' => (∃ k, OwnK kI 2 W H' (fun b => H.bd ≤ b) r k ∧ curveI p k ∧ (k.length : Int) ≤ n + 1) ∧ Ext H H') := by
  refine ACalls.of (args := [vc, .int .i64 p, .int .i64 n]) Tryz.func6 rfl rfl ?_
  have X0 := Ext.refl H
  have hm1 := hr.max
  refine AW.rs ?_
  refine AL.val rfl (.inl rfl) (HV.as rfl) ?_
  refine AL.nx ?_
  refine AW.rs ?_
  refine AL.val rfl (.inl rfl) (HV.mv rfl) ?_
  refine AL.w rfl (.inl rfl) (WV.call fn18 rfl (from_ok hr)) ?_
  rintro _ H3 ⟨b2, rfl, hn4, hb5, hx6⟩
  have o7 := Nat.le_trans X0.bd hn4
  have X8 := Ext.trans X0 hx6
  have X9 := Ext.refl H3
  refine AL.val rfl (.inl rfl) (HV.as rfl) ?_
  refine AL.nx ?_
  refine AW.rs ?_
  refine AL.val rfl (.inl rfl) (HV.mv rfl) ?_
  refine AL.val rfl (.inl rfl) (HV.mv rfl) ?_
  refine AL.val rfl (.inl rfl) (HV.mv rfl) ?_
  refine AL.val rfl (.inl rfl) (HV.mv rfl) ?_
  refine AL.val rfl (.inl rfl) (HV.add rfl rfl (by omega)) ?_
  refine AL.w rfl (.inl rfl) (WV.call fn22 rfl (pick_ok (hr.ext X8) hby hb5 (by omega) (n + 1))) ?_
  rintro _ H10 ⟨⟨q11, a12, s13, rfl, h14, h15, hb16⟩, hx17⟩
  have X18 := Ext.thru X8 hx17 (fun z_ hz_ => by rw [hz_]; exact o7)
  refine AL.val rfl (.inl rfl) (HV.add rfl rfl (by have := h14; omega)) ?_
  have X20 := Ext.refl H10
  have y21 := hb16.lt
  have o22 := X18.bd
  have o23 := X20.bd
  refine AL.w rfl (.inl rfl) (WV.call fn21 rfl (many_ok (hr.ext X18) hby hb16 (by omega) p (q11 + 1) (by omega) (by omega))) ?_
  rintro v25 H24 ⟨⟨k26, a27, s28, ho34, hl29, he30, h31, hb32⟩, hx33⟩
  have X35 := Ext.thru X18 hx33 (fun z_ hz_ => by rw [hz_]; exact o7)
  have X38 := Ext.refl H24
  have y39 := hb32.lt
  have o40 := X35.bd
  have o41 := X38.bd
  have a42 := ho34.ltb
  refine AL.w rfl (.inl rfl) (WV.call fn20 rfl (cut_ok ho34.rd (by have := hl29; have := h14; omega))) ?_
  rintro v43 H46 ⟨⟨i44, hi45, ho48⟩, hx47⟩
  have X49 := Ext.trans X35 hx47
  have X50 := Ext.trans X38 hx47
  have ho51 := ho34.ext hx47
  have hb52 := hb32.ext hx47
  refine AL.val rfl (.inl rfl) (HV.as rfl) ?_
  refine AL.nx ?_
  refine AW.ret ?_
  refine post_one rfl rfl ?_ (.inr rfl)
  have q1 := hl29; have q2 := he30; exact ⟨⟨_, ho48.okk (fun b hb _ => Nat.le_trans o40 hb), ⟨by simp; omega, elems_take q2 _, by rw [take_last hi45.1]; rcases hi45.2 with h | h; (exact .inl (by rw [h]; rfl)); (by_cases h0 : i44 = 0; (exact .inl (by rw [h0]; rfl)); (exact .inr (by rw [if_neg h0]; exact h)))⟩, by simp; omega⟩, X49⟩

set_option maxRecDepth 100000 in
theorem put_ok {v : Value} {l : List Int} {ok : Nat → Prop} (x : Int) (hr : RdK kI W H ok v l) (hl : l.length ≤ 1000) : ACalls Tryz.prog W 23 #[v, .int .i64 x] H (fun r H' => Ext H H' ∧ OwnK kI 2 W H' (fun b => H.bd ≤ b) r (ins x l)) := by
  refine ACalls.of (args := [v, .int .i64 x]) Tryz.func23 rfl rfl ?_
  have X0 := Ext.refl H
  have hm1 := hr.max
  refine AW.rs ?_
  refine AL.val rfl (.inl rfl) (HV.as rfl) ?_
  refine AL.nx ?_
  refine AW.rs ?_
  have o2 := X0.bd
  refine AL.w rfl (.inl rfl) (WV.bsK (K := kI) (l := ([] : List Int)) (css := []) sl25 rfl rfl (by first | rfl | (simp [Instr.fill, Value.cells, kI, kB, kU, kU8, kS, Kd.sc]; done) | (simp [Instr.fill, Value.cells, kI, kB, kU, kU8, kS, Kd.sc, rng1, rng2, rng3, rng4, kP])) rfl segs_nil) ?_
  rintro v3 H4 ⟨hx5, ho6⟩
  have X7 := Ext.trans X0 hx5
  refine AL.val rfl (.inl rfl) (HV.as rfl) ?_
  refine AL.nx ?_
  refine AW.rs ?_
  refine AL.val rfl (.inl rfl) (HV.as rfl) ?_
  refine AL.nx ?_
  refine AW.seq ?_
  refine AW.rs ?_
  refine AL.val rfl (.inl rfl) (HV.as rfl) ?_
  refine AL.nx ?_
  refine AW.block ?_
  refine AW.loop (σ := Nat × Bool × Value × List Int) (fun ⟨i, fd, vv, k⟩ => [(0, v), (1, .int .i64 x), (4, (.slice none 0 0)), (5, vv), (6, .bool fd), (7, .int .i64 (i : Int))]) (fun ⟨i, fd, vv, k⟩ H' => Ext H H' ∧ i ≤ l.length ∧ k.length ≤ 2 * i ∧ k ++ (if fd = true then l.drop i else ins x (l.drop i)) = ins x l ∧ OwnK kI 2 W H' (fun b => H.bd ≤ b) vv k ∧ True) (fun ⟨i, fd, vv, k⟩ => l.length - i) (0, false, v3, (([] : List Int) : List Int)) ⟨X7, Nat.zero_le _, Nat.le_refl _, rfl, ho6, trivial⟩ ⟨rfl, rfl, rfl, rfl, rfl, rfl, trivial⟩ ?_
  rintro ⟨i, fd, vv, k⟩ H9 ⟨X10, hi, hk2, hput, hoL, _⟩
  refine AW.seq ?_
  refine AW.rs ?_
  refine AL.val rfl (.inl rfl) (HV.mv rfl) ?_
  refine AL.val rfl (.inl rfl) (HV.mv rfl) ?_
  refine AL.val rfl (.inl rfl) (HV.len Tryz.underlying25 rfl hr.isSl) ?_
  refine AL.val rfl (.inl rfl) (HV.lti rfl rfl) ?_
  refine AL.nx ?_
  refine AW.ifd rfl (fun c11 => ?_) (fun c11 => ?_)
  · -- then
    refine AW.skip ?_
    refine nrm_and ?_
    refine AW.seq ?_
    refine AW.block ?_
    refine AW.seq ?_
    refine AW.rs ?_
    refine AL.val rfl (.inl rfl) (HV.mv rfl) ?_
    refine AL.val rfl (.inl rfl) (HV.not rfl) ?_
    refine AL.val rfl (.inl rfl) (HV.mv rfl) ?_
    cases c12 : (!fd)
    · -- false
      refine AL.off rfl rfl (by decide) rfl ?_
      refine AL.off rfl rfl (by decide) rfl ?_
      refine AL.off rfl rfl (by decide) rfl ?_
      refine AL.off rfl rfl (by decide) rfl ?_
      refine AL.off rfl rfl (by decide) rfl ?_
      refine AL.off rfl rfl (by decide) rfl ?_
      refine AL.val rfl (.inl rfl) (HV.pickF rfl rfl) ?_
      refine AL.nx ?_
      refine AW.cond rfl (fun h => by cases h) (fun _ => ?_)
      refine AW.skip ?_
      refine nrm_and ?_
      refine AW.reg ?_
      refine AL.val rfl (.inl rfl) (HV.mv rfl) ?_
      refine AL.val rfl (.inl rfl) (HV.mv rfl) ?_
      refine AL.val rfl (.inl rfl) (HV.mv rfl) ?_
      obtain ⟨p14, z15, cs16, hz17, hK18, hC19, hP20⟩ := RdK.ix (q := (i : Int)) hr sl25 (by omega) (by omega)
      obtain rfl : cs16 = [.int .i64 z15] := hK18
      refine AL.val rfl (.inl rfl) (hP20 rfl rfl) ?_
      refine AL.val rfl (.inl rfl) (HV.ld rfl va2 (cells_first (hC19.ext X10) rfl)) ?_
      have X21 := Ext.refl H9
      have o22 := X10.bd
      have o23 := X21.bd
      have a24 := hoL.ltb
      refine AL.w rfl (.inl rfl) (WV.bsK (K := kI) (l := ([z15] : List Int)) (css := [[.int .i64 z15]]) sl25 rfl rfl (by first | rfl | (simp [Instr.fill, Value.cells, kI, kB, kU, kU8, kS, Kd.sc]; done) | (simp [Instr.fill, Value.cells, kI, kB, kU, kU8, kS, Kd.sc, rng1, rng2, rng3, rng4, kP])) rfl (segs_cons rfl segs_nil)) ?_
      rintro v25 H26 ⟨hx27, ho28⟩
      have X29 := Ext.trans X10 hx27
      have X30 := Ext.trans X21 hx27
      have ho31 := hoL.ext hx27
      have X33 := Ext.refl H26
      refine AL.w rfl (.inl rfl) (WV.apk sl25 rfl rfl ho31 ho28.rd (by simp only [List.length_append, List.length_singleton]; omega) (by simp only [List.length_append, List.length_singleton]; omega) (fun b hb _ e => Nat.lt_irrefl _ (Nat.lt_of_lt_of_le (a24 b e) hb))) ?_
      rintro v34 H35 ⟨hx36, ho37, hb38⟩
      have ho39 := ho37.narrow (ok' := fun b => H.bd ≤ b) kI_flat (fun b q => (hb38 b q).elim (fun e => (ho31.blk b e).1) (fun e => Nat.le_trans X29.bd e))
      have X40 := Ext.thru X29 hx36 (fun b hb => Nat.le_trans o2 (ho31.blk b hb).1)
      refine AL.val rfl (.inl rfl) (HV.as rfl) ?_
      refine AL.nil ?_
      refine nrm_blk (nrm_and ?_)
      refine AW.reg ?_
      refine AL.val rfl (.inl rfl) (HV.mv rfl) ?_
      refine AL.val rfl (.inl rfl) (HV.add rfl rfl (by omega)) ?_
      refine AL.val rfl (.inl rfl) (HV.as rfl) ?_
      refine AL.nil ?_
      refine nrm_and ?_
      have hd := drop_at hz17
      rw [hd] at hput
      exact ⟨(i + 1, fd, v34, (k ++ (([z15] : List Int) : List Int))), ⟨X40, by omega, by simp only [List.length_append, List.length_singleton]; omega, by have hf : fd = true := (by simpa using (by assumption : (!fd) = false)); rw [if_pos hf] at hput ⊢; simpa using hput, ho39, trivial⟩, by first | omega | (dsimp only; omega), ⟨rfl, rfl, rfl, rfl, rfl, rfl, trivial⟩⟩
    · -- true
      refine AL.val rfl (.inr ⟨_, _, _, rfl, rfl, rfl⟩) (HV.mv rfl) ?_
      refine AL.val rfl (.inr ⟨_, _, _, rfl, rfl, rfl⟩) (HV.mv rfl) ?_
      obtain ⟨p44, z45, cs46, hz47, hK48, hC49, hP50⟩ := RdK.ix (q := (i : Int)) hr sl25 (by omega) (by omega)
      obtain rfl : cs46 = [.int .i64 z45] := hK48
      refine AL.val rfl (.inr ⟨_, _, _, rfl, rfl, rfl⟩) (hP50 rfl rfl) ?_
      refine AL.val rfl (.inr ⟨_, _, _, rfl, rfl, rfl⟩) (HV.ld rfl va2 (cells_first (hC49.ext X10) rfl)) ?_
      refine AL.val rfl (.inr ⟨_, _, _, rfl, rfl, rfl⟩) (HV.mv rfl) ?_
      refine AL.val rfl (.inr ⟨_, _, _, rfl, rfl, rfl⟩) (HV.gei rfl rfl) ?_
      refine AL.val rfl (.inl rfl) (HV.pickT rfl rfl) ?_
      refine AL.nx ?_
      refine AW.ifd rfl (fun c51 => ?_) (fun c51 => ?_)
      · -- then
        refine AW.rs ?_
        refine AL.val rfl (.inl rfl) (HV.as rfl) ?_
        refine AL.nx ?_
        refine AW.rs ?_
        refine AL.val rfl (.inl rfl) (HV.mv rfl) ?_
        refine AL.val rfl (.inl rfl) (HV.mv rfl) ?_
        obtain ⟨p52, z53, cs54, hz55, hK56, hC57, hP58⟩ := RdK.ix (q := (i : Int)) hr sl25 (by omega) (by omega)
        obtain rfl : cs54 = [.int .i64 z53] := hK56
        refine AL.val rfl (.inl rfl) (hP58 rfl rfl) ?_
        refine AL.val rfl (.inl rfl) (HV.ld rfl va2 (cells_first (hC57.ext X10) rfl)) ?_
        refine AL.val rfl (.inl rfl) (HV.mv rfl) ?_
        refine AL.val rfl (.inl rfl) (HV.gti rfl rfl) ?_
        refine AL.nx ?_
        refine AW.ifd rfl (fun c59 => ?_) (fun c59 => ?_)
        · -- then
          refine AW.reg ?_
          refine AL.val rfl (.inl rfl) (HV.mv rfl) ?_
          refine AL.val rfl (.inl rfl) (HV.mv rfl) ?_
          have X60 := Ext.refl H9
          have o61 := X10.bd
          have o62 := X60.bd
          have a63 := hoL.ltb
          refine AL.w rfl (.inl rfl) (WV.bsK (K := kI) (l := ([x] : List Int)) (css := [[.int .i64 x]]) sl25 rfl rfl (by first | rfl | (simp [Instr.fill, Value.cells, kI, kB, kU, kU8, kS, Kd.sc]; done) | (simp [Instr.fill, Value.cells, kI, kB, kU, kU8, kS, Kd.sc, rng1, rng2, rng3, rng4, kP])) rfl (segs_cons rfl segs_nil)) ?_
          rintro v64 H65 ⟨hx66, ho67⟩
          have X68 := Ext.trans X10 hx66
          have X69 := Ext.trans X60 hx66
          have ho70 := hoL.ext hx66
          have X72 := Ext.refl H65
          refine AL.w rfl (.inl rfl) (WV.apk sl25 rfl rfl ho70 ho67.rd (by simp only [List.length_append, List.length_singleton]; omega) (by simp only [List.length_append, List.length_singleton]; omega) (fun b hb _ e => Nat.lt_irrefl _ (Nat.lt_of_lt_of_le (a63 b e) hb))) ?_
          rintro v73 H74 ⟨hx75, ho76, hb77⟩
          have ho78 := ho76.narrow (ok' := fun b => H.bd ≤ b) kI_flat (fun b q => (hb77 b q).elim (fun e => (ho70.blk b e).1) (fun e => Nat.le_trans X68.bd e))
          have X79 := Ext.thru X68 hx75 (fun b hb => Nat.le_trans o2 (ho70.blk b hb).1)
          refine AL.val rfl (.inl rfl) (HV.as rfl) ?_
          refine AL.nil ?_
          refine nrm_and ?_
          refine AW.reg ?_
          refine AL.val rfl (.inl rfl) (HV.mv rfl) ?_
          refine AL.val rfl (.inl rfl) (HV.mv rfl) ?_
          refine AL.val rfl (.inl rfl) (HV.mv rfl) ?_
          obtain ⟨p83, z84, cs85, hz86, hK87, hC88, hP89⟩ := RdK.ix (q := (i : Int)) hr sl25 (by omega) (by omega)
          obtain rfl : cs85 = [.int .i64 z84] := hK87
          refine AL.val rfl (.inl rfl) (hP89 rfl rfl) ?_
          refine AL.val rfl (.inl rfl) (HV.ld rfl va2 (cells_first (hC88.ext X79) rfl)) ?_
          have X90 := Ext.refl H74
          have o91 := X79.bd
          have o92 := X90.bd
          have a93 := ho78.ltb
          refine AL.w rfl (.inl rfl) (WV.bsK (K := kI) (l := ([z84] : List Int)) (css := [[.int .i64 z84]]) sl25 rfl rfl (by first | rfl | (simp [Instr.fill, Value.cells, kI, kB, kU, kU8, kS, Kd.sc]; done) | (simp [Instr.fill, Value.cells, kI, kB, kU, kU8, kS, Kd.sc, rng1, rng2, rng3, rng4, kP])) rfl (segs_cons rfl segs_nil)) ?_
          rintro v94 H95 ⟨hx96, ho97⟩
          have X98 := Ext.trans X79 hx96
          have X99 := Ext.trans X90 hx96
          have ho100 := ho78.ext hx96
          have X102 := Ext.refl H95
          refine AL.w rfl (.inl rfl) (WV.apk sl25 rfl rfl ho100 ho97.rd (by simp only [List.length_append, List.length_singleton]; omega) (by simp only [List.length_append, List.length_singleton]; omega) (fun b hb _ e => Nat.lt_irrefl _ (Nat.lt_of_lt_of_le (a93 b e) hb))) ?_
          rintro v103 H104 ⟨hx105, ho106, hb107⟩
          have ho108 := ho106.narrow (ok' := fun b => H.bd ≤ b) kI_flat (fun b q => (hb107 b q).elim (fun e => (ho100.blk b e).1) (fun e => Nat.le_trans X98.bd e))
          have X109 := Ext.thru X98 hx105 (fun b hb => Nat.le_trans o2 (ho100.blk b hb).1)
          refine AL.val rfl (.inl rfl) (HV.as rfl) ?_
          refine AL.nil ?_
          refine nrm_blk (nrm_and ?_)
          refine AW.reg ?_
          refine AL.val rfl (.inl rfl) (HV.mv rfl) ?_
          refine AL.val rfl (.inl rfl) (HV.add rfl rfl (by omega)) ?_
          refine AL.val rfl (.inl rfl) (HV.as rfl) ?_
          refine AL.nil ?_
          refine nrm_and ?_
          have hd := drop_at hz86
          rw [hd] at hput
          have e21 : z45 = z84 := same_at hz86 hz47
          have e28 : z53 = z84 := same_at hz86 hz55
          exact ⟨(i + 1, true, v103, ((k ++ (([x] : List Int) : List Int)) ++ (([z84] : List Int) : List Int))), ⟨X109, by omega, by simp only [List.length_append, List.length_singleton]; omega, by have hf : fd = false := (by simpa using (by assumption : (!fd) = true)); rw [if_neg (by rw [hf]; decide)] at hput; rw [if_pos rfl]; first | (rw [ins_gt (show x < z84 by omega)] at hput; simpa using hput) | (rw [ins_eq (show z84 = x by omega)] at hput; simpa using hput), ho108, trivial⟩, by first | omega | (dsimp only; omega), ⟨rfl, rfl, rfl, rfl, rfl, rfl, trivial⟩⟩
        · -- else
          refine AW.skip ?_
          refine nrm_and ?_
          refine AW.reg ?_
          refine AL.val rfl (.inl rfl) (HV.mv rfl) ?_
          refine AL.val rfl (.inl rfl) (HV.mv rfl) ?_
          refine AL.val rfl (.inl rfl) (HV.mv rfl) ?_
          obtain ⟨p113, z114, cs115, hz116, hK117, hC118, hP119⟩ := RdK.ix (q := (i : Int)) hr sl25 (by omega) (by omega)
          obtain rfl : cs115 = [.int .i64 z114] := hK117
          refine AL.val rfl (.inl rfl) (hP119 rfl rfl) ?_
          refine AL.val rfl (.inl rfl) (HV.ld rfl va2 (cells_first (hC118.ext X10) rfl)) ?_
          have X120 := Ext.refl H9
          have o121 := X10.bd
          have o122 := X120.bd
          have a123 := hoL.ltb
          refine AL.w rfl (.inl rfl) (WV.bsK (K := kI) (l := ([z114] : List Int)) (css := [[.int .i64 z114]]) sl25 rfl rfl (by first | rfl | (simp [Instr.fill, Value.cells, kI, kB, kU, kU8, kS, Kd.sc]; done) | (simp [Instr.fill, Value.cells, kI, kB, kU, kU8, kS, Kd.sc, rng1, rng2, rng3, rng4, kP])) rfl (segs_cons rfl segs_nil)) ?_
          rintro v124 H125 ⟨hx126, ho127⟩
          have X128 := Ext.trans X10 hx126
          have X129 := Ext.trans X120 hx126
          have ho130 := hoL.ext hx126
          have X132 := Ext.refl H125
          refine AL.w rfl (.inl rfl) (WV.apk sl25 rfl rfl ho130 ho127.rd (by simp only [List.length_append, List.length_singleton]; omega) (by simp only [List.length_append, List.length_singleton]; omega) (fun b hb _ e => Nat.lt_irrefl _ (Nat.lt_of_lt_of_le (a123 b e) hb))) ?_
          rintro v133 H134 ⟨hx135, ho136, hb137⟩
          have ho138 := ho136.narrow (ok' := fun b => H.bd ≤ b) kI_flat (fun b q => (hb137 b q).elim (fun e => (ho130.blk b e).1) (fun e => Nat.le_trans X128.bd e))
          have X139 := Ext.thru X128 hx135 (fun b hb => Nat.le_trans o2 (ho130.blk b hb).1)
          refine AL.val rfl (.inl rfl) (HV.as rfl) ?_
          refine AL.nil ?_
          refine nrm_blk (nrm_and ?_)
          refine AW.reg ?_
          refine AL.val rfl (.inl rfl) (HV.mv rfl) ?_
          refine AL.val rfl (.inl rfl) (HV.add rfl rfl (by omega)) ?_
          refine AL.val rfl (.inl rfl) (HV.as rfl) ?_
          refine AL.nil ?_
          refine nrm_and ?_
          have hd := drop_at hz116
          rw [hd] at hput
          have e21 : z45 = z114 := same_at hz116 hz47
          have e28 : z53 = z114 := same_at hz116 hz55
          exact ⟨(i + 1, true, v133, (k ++ (([z114] : List Int) : List Int))), ⟨X139, by omega, by simp only [List.length_append, List.length_singleton]; omega, by have hf : fd = false := (by simpa using (by assumption : (!fd) = true)); rw [if_neg (by rw [hf]; decide)] at hput; rw [if_pos rfl]; first | (rw [ins_gt (show x < z114 by omega)] at hput; simpa using hput) | (rw [ins_eq (show z114 = x by omega)] at hput; simpa using hput), ho138, trivial⟩, by first | omega | (dsimp only; omega), ⟨rfl, rfl, rfl, rfl, rfl, rfl, trivial⟩⟩
      · -- else
        refine AW.skip ?_
        refine nrm_and ?_
        refine AW.reg ?_
        refine AL.val rfl (.inl rfl) (HV.mv rfl) ?_
        refine AL.val rfl (.inl rfl) (HV.mv rfl) ?_
        refine AL.val rfl (.inl rfl) (HV.mv rfl) ?_
        obtain ⟨p143, z144, cs145, hz146, hK147, hC148, hP149⟩ := RdK.ix (q := (i : Int)) hr sl25 (by omega) (by omega)
        obtain rfl : cs145 = [.int .i64 z144] := hK147
        refine AL.val rfl (.inl rfl) (hP149 rfl rfl) ?_
        refine AL.val rfl (.inl rfl) (HV.ld rfl va2 (cells_first (hC148.ext X10) rfl)) ?_
        have X150 := Ext.refl H9
        have o151 := X10.bd
        have o152 := X150.bd
        have a153 := hoL.ltb
        refine AL.w rfl (.inl rfl) (WV.bsK (K := kI) (l := ([z144] : List Int)) (css := [[.int .i64 z144]]) sl25 rfl rfl (by first | rfl | (simp [Instr.fill, Value.cells, kI, kB, kU, kU8, kS, Kd.sc]; done) | (simp [Instr.fill, Value.cells, kI, kB, kU, kU8, kS, Kd.sc, rng1, rng2, rng3, rng4, kP])) rfl (segs_cons rfl segs_nil)) ?_
        rintro v154 H155 ⟨hx156, ho157⟩
        have X158 := Ext.trans X10 hx156
        have X159 := Ext.trans X150 hx156
        have ho160 := hoL.ext hx156
        have X162 := Ext.refl H155
        refine AL.w rfl (.inl rfl) (WV.apk sl25 rfl rfl ho160 ho157.rd (by simp only [List.length_append, List.length_singleton]; omega) (by simp only [List.length_append, List.length_singleton]; omega) (fun b hb _ e => Nat.lt_irrefl _ (Nat.lt_of_lt_of_le (a153 b e) hb))) ?_
        rintro v163 H164 ⟨hx165, ho166, hb167⟩
        have ho168 := ho166.narrow (ok' := fun b => H.bd ≤ b) kI_flat (fun b q => (hb167 b q).elim (fun e => (ho160.blk b e).1) (fun e => Nat.le_trans X158.bd e))
        have X169 := Ext.thru X158 hx165 (fun b hb => Nat.le_trans o2 (ho160.blk b hb).1)
        refine AL.val rfl (.inl rfl) (HV.as rfl) ?_
        refine AL.nil ?_
        refine nrm_blk (nrm_and ?_)
        refine AW.reg ?_
        refine AL.val rfl (.inl rfl) (HV.mv rfl) ?_
        refine AL.val rfl (.inl rfl) (HV.add rfl rfl (by omega)) ?_
        refine AL.val rfl (.inl rfl) (HV.as rfl) ?_
        refine AL.nil ?_
        refine nrm_and ?_
        have hd := drop_at hz146
        rw [hd] at hput
        have e21 : z45 = z144 := same_at hz146 hz47
        exact ⟨(i + 1, fd, v163, (k ++ (([z144] : List Int) : List Int))), ⟨X169, by omega, by simp only [List.length_append, List.length_singleton]; omega, by have hf : fd = false := (by simpa using (by assumption : (!fd) = true)); rw [if_neg (by rw [hf]; decide)] at hput; rw [if_neg (by rw [hf]; decide)]; rw [ins_lt (by omega)] at hput; simpa using hput, ho168, trivial⟩, by first | omega | (dsimp only; omega), ⟨rfl, rfl, rfl, rfl, rfl, rfl, trivial⟩⟩
  · -- else
    refine AW.exit ?_
    refine ex_and (ex_and (ex_blk ?_))
    refine nrm_and ?_
    refine AW.seq ?_
    refine AW.rs ?_
    refine AL.val rfl (.inl rfl) (HV.mv rfl) ?_
    refine AL.val rfl (.inl rfl) (HV.not rfl) ?_
    refine AL.nx ?_
    refine AW.cond rfl (fun c173 => ?_) (fun c173 => ?_)
    · -- then
      refine AW.reg ?_
      refine AL.val rfl (.inl rfl) (HV.mv rfl) ?_
      refine AL.val rfl (.inl rfl) (HV.mv rfl) ?_
      have X174 := Ext.refl H9
      have o175 := X10.bd
      have o176 := X174.bd
      have a177 := hoL.ltb
      refine AL.w rfl (.inl rfl) (WV.bsK (K := kI) (l := ([x] : List Int)) (css := [[.int .i64 x]]) sl25 rfl rfl (by first | rfl | (simp [Instr.fill, Value.cells, kI, kB, kU, kU8, kS, Kd.sc]; done) | (simp [Instr.fill, Value.cells, kI, kB, kU, kU8, kS, Kd.sc, rng1, rng2, rng3, rng4, kP])) rfl (segs_cons rfl segs_nil)) ?_
      rintro v178 H179 ⟨hx180, ho181⟩
      have X182 := Ext.trans X10 hx180
      have X183 := Ext.trans X174 hx180
      have ho184 := hoL.ext hx180
      have X186 := Ext.refl H179
      refine AL.w rfl (.inl rfl) (WV.apk sl25 rfl rfl ho184 ho181.rd (by simp only [List.length_append, List.length_singleton]; omega) (by simp only [List.length_append, List.length_singleton]; omega) (fun b hb _ e => Nat.lt_irrefl _ (Nat.lt_of_lt_of_le (a177 b e) hb))) ?_
      rintro v187 H188 ⟨hx189, ho190, hb191⟩
      have ho192 := ho190.narrow (ok' := fun b => H.bd ≤ b) kI_flat (fun b q => (hb191 b q).elim (fun e => (ho184.blk b e).1) (fun e => Nat.le_trans X182.bd e))
      have X193 := Ext.thru X182 hx189 (fun b hb => Nat.le_trans o2 (ho184.blk b hb).1)
      refine AL.val rfl (.inl rfl) (HV.as rfl) ?_
      refine AL.nil ?_
      refine nrm_and ?_
      refine AW.rs ?_
      refine AL.val rfl (.inl rfl) (HV.mv rfl) ?_
      refine AL.val rfl (.inl rfl) (HV.as rfl) ?_
      refine AL.nx ?_
      refine AW.ret ?_
      refine post_one rfl rfl ?_ (.inr rfl)
      exact ⟨X193, by rw [List.drop_of_length_le (by omega)] at hput; have q := ho192.okk (fun b hb _ => Nat.le_trans o2 hb); have hf : fd = false := (by simpa using (by assumption : (!fd) = true)); rw [if_neg (by rw [hf]; decide)] at hput; simp only [ins] at hput; rw [hput] at q; exact q⟩
    · -- else
      refine AW.skip ?_
      refine nrm_and ?_
      refine AW.rs ?_
      refine AL.val rfl (.inl rfl) (HV.mv rfl) ?_
      refine AL.val rfl (.inl rfl) (HV.as rfl) ?_
      refine AL.nx ?_
      refine AW.ret ?_
      refine post_one rfl rfl ?_ (.inr rfl)
      exact ⟨X10, by rw [List.drop_of_length_le (by omega)] at hput; have q := hoL.okk (fun b hb _ => Nat.le_trans o2 hb); have hf : fd = true := (by simpa using (by assumption : (!fd) = false)); rw [if_pos hf, List.append_nil] at hput; rw [hput] at q; exact q⟩

set_option maxRecDepth 100000 in
theorem p6Points_ok {vc : Value} {l : List Int} (hr : RdK kU8 W H (fun _ => False) vc l) (hby : bytes l) (p n : Int) (hp : 2 ≤ p ∧ p ≤ 31) (hn : 0 ≤ n ∧ n ≤ 10 ∧ n ≤ p - 1) : ACalls Tryz.prog W 8 #[vc, .int .i64 p, .int .i64 n] H (fun r H' => (∃ k, OwnK kI 2 W H' (fun b => H.bd ≤ b) r k ∧ Ris 1 (p - 1) k ∧ (k.length : Int) ≤ max 5 n ∧ n ≤ (k.length : Int)) ∧ Ext H H') := by
  refine ACalls.of (args := [vc, .int .i64 p, .int .i64 n]) Tryz.func8 rfl rfl ?_
  have X0 := Ext.refl H
  have hm1 := hr.max
  refine AW.rs ?_
  refine AL.val rfl (.inl rfl) (HV.as rfl) ?_
  refine AL.nx ?_
  refine AW.rs ?_
  refine AL.val rfl (.inl rfl) (HV.mv rfl) ?_
  refine AL.w rfl (.inl rfl) (WV.call fn18 rfl (from_ok hr)) ?_
  rintro _ H3 ⟨b2, rfl, hn4, hb5, hx6⟩
  have o7 := Nat.le_trans X0.bd hn4
  have X8 := Ext.trans X0 hx6
  have X9 := Ext.refl H3
  refine AL.val rfl (.inl rfl) (HV.as rfl) ?_
  refine AL.nx ?_
  refine AW.rs ?_
  have y10 := hb5.lt
  have o11 := X8.bd
  have o12 := X9.bd
  refine AL.w rfl (.inl rfl) (WV.bsK (K := kI) (l := ([] : List Int)) (css := []) sl25 rfl rfl (by first | rfl | (simp [Instr.fill, Value.cells, kI, kB, kU, kU8, kS, Kd.sc]; done) | (simp [Instr.fill, Value.cells, kI, kB, kU, kU8, kS, Kd.sc, rng1, rng2, rng3, rng4, kP])) rfl segs_nil) ?_
  rintro v13 H14 ⟨hx15, ho16⟩
  have X17 := Ext.trans X8 hx15
  have X18 := Ext.trans X9 hx15
  have hb19 := hb5.ext hx15
  refine AL.val rfl (.inl rfl) (HV.as rfl) ?_
  refine AL.nx ?_
  refine AW.seq ?_
  refine AW.rs ?_
  refine AL.val rfl (.inl rfl) (HV.mv rfl) ?_
  refine AL.w rfl (.inl rfl) (WV.call fn22 rfl (pick_ok (hr.ext X17) hby hb19 (by omega) 6)) ?_
  rintro _ H21 ⟨⟨q22, a23, s24, rfl, h25, h26, hb27⟩, hx28⟩
  have X29 := Ext.thru X17 hx28 (fun z_ hz_ => by rw [hz_]; exact o7)
  have q31 := Nat.le_trans X18.bd hx28.bd
  have ho32 := ho16.but hx28 (fun b hb _ e => by have hb' : H3.bd ≤ b := hb; have e' : b = b2 := e; omega) (fun z_ hz_ => by rw [hz_]; exact hb19.w)
  refine AL.val rfl (.inl rfl) (HV.as rfl) ?_
  refine AL.nx ?_
  refine AW.block ?_
  have hq0 := h25
  refine AW.loop (σ := Int × Value × List Int × Int × Int) (fun ⟨x, vv, k, a1, s1⟩ => [(1, .int .i64 p), (2, .int .i64 n), (6, (.slice none 0 0)), (7, .pointer (some ⟨b2, 0, none⟩)), (8, vv), (9, .int .i64 x)]) (fun ⟨x, vv, k, a1, s1⟩ H' => Ext H H' ∧ H3.bd ≤ H'.bd ∧ (0 ≤ x ∧ x ≤ 5) ∧ Ris 1 (p - 1) k ∧ (k.length : Int) ≤ 5 - x ∧ (0 ≤ a1 ∧ a1 ≤ 12 - 2 * x) ∧ OwnK kI 2 W H' (fun b => H3.bd ≤ b) vv k ∧ At W H' b2 ⟨61, [vc, .int .i64 a1, .int .u64 s1], 3⟩ ∧ True) (fun ⟨x, vv, k, a1, s1⟩ => x.toNat) (q22, v13, [], a23, s24) ⟨X29, q31, by omega, (fun j hj => absurd hj (Nat.not_lt_zero _)), by simp; omega, by omega, ho32, hb27, trivial⟩ ⟨rfl, rfl, rfl, rfl, rfl, rfl, trivial⟩ ?_
  rintro ⟨x, vv, k, a1, s1⟩ H33 ⟨X34, q35, hx, hR, hk2, ha1, hoL, hbL, _⟩
  refine AW.seq ?_
  refine AW.rs ?_
  refine AL.val rfl (.inl rfl) (HV.mv rfl) ?_
  refine AL.val rfl (.inl rfl) (HV.gti rfl rfl) ?_
  refine AL.nx ?_
  refine AW.ifd rfl (fun c36 => ?_) (fun c36 => ?_)
  · -- then
    refine AW.skip ?_
    refine nrm_and ?_
    refine AW.seq ?_
    refine AW.block ?_
    refine AW.reg ?_
    refine AL.val rfl (.inl rfl) (HV.mv rfl) ?_
    refine AL.val rfl (.inl rfl) (HV.mv rfl) ?_
    refine AL.val rfl (.inl rfl) (HV.mv rfl) ?_
    refine AL.val rfl (.inl rfl) (HV.sub rfl rfl (by omega)) ?_
    refine AL.w rfl (.inl rfl) (WV.call fn22 rfl (pick_ok (hr.ext X34) hby hbL (by omega) (p - 1))) ?_
    rintro _ H37 ⟨⟨q38, a39, s40, rfl, h41, h42, hb43⟩, hx44⟩
    have q45 := Nat.le_trans q35 hx44.bd
    have X46 := Ext.thru X34 hx44 (fun z_ hz_ => by rw [hz_]; exact o7)
    have ho47 := hoL.but hx44 (fun b hb _ e => by have hb' : H3.bd ≤ b := hb; have e' : b = b2 := e; omega) (fun z_ hz_ => by rw [hz_]; exact hbL.w)
    refine AL.val rfl (.inl rfl) (HV.add rfl rfl (by have := h41; omega)) ?_
    have X48 := Ext.refl H37
    have y49 := hb43.lt
    have o50 := X46.bd
    have o51 := X48.bd
    have a52 := ho47.ltb
    refine AL.w rfl (.inl rfl) (WV.call fn23 rfl (put_ok (1 + q38) ho47.rd (by omega))) ?_
    rintro v53 H54 ⟨hx55, ho56⟩
    have q57 := Nat.le_trans q45 hx55.bd
    have X58 := Ext.trans X46 hx55
    have X59 := Ext.trans X48 hx55
    have ho60 := ho47.ext hx55
    have hb61 := hb43.ext hx55
    refine AL.val rfl (.inl rfl) (HV.as rfl) ?_
    refine AL.nil ?_
    refine nrm_blk (nrm_and ?_)
    refine AW.reg ?_
    refine AL.val rfl (.inl rfl) (HV.mv rfl) ?_
    refine AL.val rfl (.inl rfl) (HV.sub rfl rfl (by omega)) ?_
    refine AL.val rfl (.inl rfl) (HV.as rfl) ?_
    refine AL.nil ?_
    refine nrm_and ?_
    exact ⟨(x - 1, v53, (ins (1 + q38) k), a39, s40), ⟨X58, q57, by omega, ris_ins hR (by have := h41; omega), by have := ins_len (1 + q38) k; omega, by omega, ho56.okk (fun b hb _ => Nat.le_trans q45 hb), hb61, trivial⟩, by first | omega | (dsimp only; omega), ⟨rfl, rfl, rfl, rfl, rfl, rfl, trivial⟩⟩
  · -- else
    refine AW.exit ?_
    refine ex_and (ex_and (ex_blk ?_))
    refine nrm_and ?_
    refine AW.seq ?_
    refine AW.rs ?_
    refine AL.val rfl (.inl rfl) (HV.as rfl) ?_
    refine AL.nx ?_
    refine AW.block ?_
    refine AW.loop (σ := Int × Value × List Int) (fun ⟨y, vv, k⟩ => [(1, .int .i64 p), (2, .int .i64 n), (6, (.slice none 0 0)), (8, vv), (10, .int .i64 y)]) (fun ⟨y, vv, k⟩ H' => Ext H H' ∧ H3.bd ≤ H'.bd ∧ (1 ≤ y ∧ y ≤ p) ∧ Ris 1 (p - 1) k ∧ (k.length : Int) ≤ max 5 n ∧ (∀ z : Int, 1 ≤ z → z < y → z ∈ k) ∧ OwnK kI 2 W H' (fun b => H3.bd ≤ b) vv k ∧ True) (fun ⟨y, vv, k⟩ => (p - y).toNat) (1, vv, k) ⟨X34, q35, by omega, hR, by omega, (fun z a b => by omega), hoL, trivial⟩ ⟨rfl, rfl, rfl, rfl, rfl, trivial⟩ ?_
    rintro ⟨y, vv, k⟩ H63 ⟨X64, q65, hy, hR, hk2, hall, hoL, _⟩
    refine AW.seq ?_
    refine AW.rs ?_
    refine AL.val rfl (.inl rfl) (HV.mv rfl) ?_
    refine AL.val rfl (.inl rfl) (HV.len Tryz.underlying25 rfl hoL.rd.isSl) ?_
    refine AL.val rfl (.inl rfl) (HV.mv rfl) ?_
    refine AL.val rfl (.inl rfl) (HV.lti rfl rfl) ?_
    refine AL.val rfl (.inl rfl) (HV.mv rfl) ?_
    by_cases c66 : (k.length : Int) < n
    · -- true
      have c66_ : decide ((k.length : Int) < n) = true := decide_eq_true c66
      rw [c66_]
      refine AL.val rfl (.inr ⟨_, _, _, rfl, rfl, rfl⟩) (HV.mv rfl) ?_
      refine AL.val rfl (.inr ⟨_, _, _, rfl, rfl, rfl⟩) (HV.mv rfl) ?_
      refine AL.val rfl (.inr ⟨_, _, _, rfl, rfl, rfl⟩) (HV.lti rfl rfl) ?_
      refine AL.val rfl (.inl rfl) (HV.pickT rfl rfl) ?_
      refine AL.nx ?_
      refine AW.ifd rfl (fun c67 => ?_) (fun c67 => ?_)
      · -- then
        refine AW.skip ?_
        refine nrm_and ?_
        refine AW.seq ?_
        refine AW.block ?_
        refine AW.reg ?_
        refine AL.val rfl (.inl rfl) (HV.mv rfl) ?_
        refine AL.val rfl (.inl rfl) (HV.mv rfl) ?_
        have X68 := Ext.refl H63
        have o69 := X64.bd
        have o70 := X68.bd
        have a71 := hoL.ltb
        refine AL.w rfl (.inl rfl) (WV.call fn23 rfl (put_ok y hoL.rd (by omega))) ?_
        rintro v72 H73 ⟨hx74, ho75⟩
        have q76 := Nat.le_trans q65 hx74.bd
        have X77 := Ext.trans X64 hx74
        have X78 := Ext.trans X68 hx74
        have ho79 := hoL.ext hx74
        refine AL.val rfl (.inl rfl) (HV.as rfl) ?_
        refine AL.nil ?_
        refine nrm_blk (nrm_and ?_)
        refine AW.reg ?_
        refine AL.val rfl (.inl rfl) (HV.mv rfl) ?_
        refine AL.val rfl (.inl rfl) (HV.add rfl rfl (by omega)) ?_
        refine AL.val rfl (.inl rfl) (HV.as rfl) ?_
        refine AL.nil ?_
        refine nrm_and ?_
        exact ⟨(y + 1, v72, (ins y k)), ⟨X77, q76, by omega, ris_ins hR (by omega), by have := ins_len y k; omega, (fun z a b => ins_mem.2 (by by_cases e : z = y; (exact .inl e); (exact .inr (hall z a (by omega))))), ho75.okk (fun b hb _ => Nat.le_trans q65 hb), trivial⟩, by first | omega | (dsimp only; omega), ⟨rfl, rfl, rfl, rfl, rfl, trivial⟩⟩
      · -- else
        refine AW.exit ?_
        refine ex_and (ex_and (ex_blk ?_))
        refine nrm_and ?_
        refine AW.rs ?_
        refine AL.val rfl (.inl rfl) (HV.mv rfl) ?_
        refine AL.val rfl (.inl rfl) (HV.as rfl) ?_
        refine AL.nx ?_
        refine AW.ret ?_
        refine post_one rfl rfl ?_ (.inr rfl)
        exact ⟨⟨_, hoL.okk (fun b hb _ => Nat.le_trans o11 hb), hR, hk2, by first | omega | (have q := (ris_full hR (p - 1).toNat (fun z a b => hall z a (by omega))).1; omega)⟩, X64⟩
    · -- false
      have c66_ : decide ((k.length : Int) < n) = false := decide_eq_false c66
      rw [c66_]
      refine AL.off rfl rfl (by decide) rfl ?_
      refine AL.off rfl rfl (by decide) rfl ?_
      refine AL.off rfl rfl (by decide) rfl ?_
      refine AL.val rfl (.inl rfl) (HV.pickF rfl rfl) ?_
      refine AL.nx ?_
      refine AW.cond rfl (fun h => by cases h) (fun _ => ?_)
      refine AW.exit ?_
      refine ex_and (ex_and (ex_blk ?_))
      refine nrm_and ?_
      refine AW.rs ?_
      refine AL.val rfl (.inl rfl) (HV.mv rfl) ?_
      refine AL.val rfl (.inl rfl) (HV.as rfl) ?_
      refine AL.nx ?_
      refine AW.ret ?_
      refine post_one rfl rfl ?_ (.inr rfl)
      exact ⟨⟨_, hoL.okk (fun b hb _ => Nat.le_trans o11 hb), hR, hk2, by first | omega | (have q := (ris_full hR (p - 1).toNat (fun z a b => hall z a (by omega))).1; omega)⟩, X64⟩

set_option maxRecDepth 100000 in
theorem specVC_ok {v : Value} {l : List Int} {ok : Nat → Prop} {p : Int} (hr : RdK kI W H ok v l) : ACalls Tryz.prog W 24 #[.int .i64 p, v] H (fun r H' => r = .bool (decide (primeI p ∧ curveI p l)) ∧ Ext H H') := by
  refine ACalls.of (args := [.int .i64 p, v]) Tryz.func24 rfl rfl ?_
  have X0 := Ext.refl H
  have hm1 := hr.max
  refine AW.rs ?_
  refine AL.val rfl (.inl rfl) (HV.as rfl) ?_
  refine AL.nx ?_
  refine AW.rs ?_
  refine AL.val rfl (.inl rfl) (HV.mv rfl) ?_
  refine AL.w rfl (.inl rfl) (WV.call fn41 rfl (l05Prime_ok (W := W) p)) ?_
  rintro _ H2 ⟨rfl, hx3⟩
  have X4 := Ext.trans X0 hx3
  refine AL.val rfl (.inl rfl) (HV.mv rfl) ?_
  by_cases c5 : primeI p
  · -- true
    have c5_ : decide (primeI p) = true := decide_eq_true c5
    rw [c5_]
    refine AL.val rfl (.inr ⟨_, _, _, rfl, rfl, rfl⟩) (HV.mv rfl) ?_
    refine AL.val rfl (.inr ⟨_, _, _, rfl, rfl, rfl⟩) (HV.mv rfl) ?_
    refine AL.w rfl (.inr ⟨_, _, _, rfl, rfl, rfl⟩) (WV.call fn42 rfl (l05Cu_ok (hr.ext X4) (by assumption : primeI p).1)) ?_
    rintro _ H6 ⟨rfl, hx7⟩
    have X8 := Ext.trans X4 hx7
    refine AL.val rfl (.inl rfl) (HV.pickT rfl rfl) ?_
    refine AL.val rfl (.inl rfl) (HV.as rfl) ?_
    refine AL.nx ?_
    refine AW.ret ?_
    refine post_one rfl rfl ?_ (.inr rfl)
    exact ⟨congrArg Value.bool (decide_eq_decide.2 ⟨fun h => ⟨by assumption, h⟩, fun h => h.2⟩), X8⟩
  · -- false
    have c5_ : decide (primeI p) = false := decide_eq_false c5
    rw [c5_]
    refine AL.off rfl rfl (by decide) rfl ?_
    refine AL.off rfl rfl (by decide) rfl ?_
    refine AL.off rfl rfl (by decide) rfl ?_
    refine AL.val rfl (.inl rfl) (HV.pickF rfl rfl) ?_
    refine AL.val rfl (.inl rfl) (HV.as rfl) ?_
    refine AL.nx ?_
    refine AW.ret ?_
    refine post_one rfl rfl ?_ (.inr rfl)
    exact ⟨dec_f (fun h => c5 h.1), X4⟩

set_option maxRecDepth 100000 in
theorem deal_ok {v vp : Value} {l pts : List Int} {ok ok3 : Nat → Prop} (p : Int) (hr : RdK kI W H ok v l) (hr3 : RdK kI W H ok3 vp pts) (hp : 2 ≤ p ∧ p ≤ 31) (hc : elems p l) (hpt : ptsI p pts) : ACalls Tryz.prog W 26 #[.int .i64 p, v, vp] H (fun r H' => Ext H H' ∧ OwnK (kP kI kI) 36 W H' (fun b => H.bd ≤ b) r (pts.map (fun x => (x, val p l x)))) := by
  refine ACalls.of (args := [.int .i64 p, v, vp]) Tryz.func26 rfl rfl ?_
  have X0 := Ext.refl H
  have hm1 := hr.max
  have hm2 := hr3.max
  have hl10 := hpt.1
  refine AW.rs ?_
  refine AL.val rfl (.inl rfl) (HV.as rfl) ?_
  refine AL.nx ?_
  refine AW.rs ?_
  have o3 := X0.bd
  refine AL.w rfl (.inl rfl) (WV.bsK (K := (kP kI kI)) (l := ([] : List (Int × Int))) (css := []) sl28 rfl rfl (by first | rfl | (simp [Instr.fill, Value.cells, kI, kB, kU, kU8, kS, Kd.sc]; done) | (simp [Instr.fill, Value.cells, kI, kB, kU, kU8, kS, Kd.sc, rng1, rng2, rng3, rng4, kP])) rfl segs_nil) ?_
  rintro v4 H5 ⟨hx6, ho7⟩
  have X8 := Ext.trans X0 hx6
  refine AL.val rfl (.inl rfl) (HV.as rfl) ?_
  refine AL.nx ?_
  refine AW.seq ?_
  refine AW.rs ?_
  refine AL.val rfl (.inl rfl) (HV.as rfl) ?_
  refine AL.nx ?_
  refine AW.block ?_
  refine AW.loop (σ := Nat × Value × List (Int × Int)) (fun ⟨i, vv, k⟩ => [(0, .int .i64 p), (1, v), (2, vp), (6, (.slice none 0 0)), (7, vv), (8, .int .i64 (i : Int))]) (fun ⟨i, vv, k⟩ H' => Ext H H' ∧ i ≤ pts.length ∧ k = (pts.take i).map (fun x => (x, val p l x)) ∧ k.length = i ∧ OwnK (kP kI kI) 36 W H' (fun b => H.bd ≤ b) vv k ∧ True) (fun ⟨i, vv, k⟩ => pts.length - i) (0, v4, (([] : List (Int × Int)) : List (Int × Int))) ⟨X8, Nat.zero_le _, rfl, rfl, ho7, trivial⟩ ⟨rfl, rfl, rfl, rfl, rfl, rfl, trivial⟩ ?_
  rintro ⟨i, vv, k⟩ H10 ⟨X11, hi, hk, hk2, hoL, _⟩
  refine AW.seq ?_
  refine AW.rs ?_
  refine AL.val rfl (.inl rfl) (HV.mv rfl) ?_
  refine AL.val rfl (.inl rfl) (HV.mv rfl) ?_
  refine AL.val rfl (.inl rfl) (HV.len Tryz.underlying25 rfl hr3.isSl) ?_
  refine AL.val rfl (.inl rfl) (HV.lti rfl rfl) ?_
  refine AL.nx ?_
  refine AW.ifd rfl (fun c12 => ?_) (fun c12 => ?_)
  · -- then
    refine AW.skip ?_
    refine nrm_and ?_
    refine AW.seq ?_
    refine AW.block ?_
    refine AW.draw' [0, 0, 0, 6, 14, 0, 0, 0, 0, 384, 896, 2016, 4094, 8190, 16383, 32767] mixed (by rfl) ?_
    refine Dr.read 0 _ 16 _ rfl rfl rfl rfl rfl (RV.of (by intro _ _ h; cases h) (.inl rfl) (fun _ xd => HV.mv rfl)) ?_
    refine Dr.read 1 _ 17 _ rfl rfl rfl rfl rfl (RV.of (by intro _ _ h; cases h) (.inl rfl) (fun _ xd => HV.mv rfl)) ?_
    refine Dr.read 2 _ 18 _ rfl rfl rfl rfl rfl (RV.of (by intro _ _ h; cases h) (.inl rfl) (fun _ xd => HV.mv rfl)) ?_
    obtain ⟨p13, z14, cs15, hz16, hK17, hC18, hP19⟩ := RdK.ix (q := (i : Int)) hr3 sl25 (by omega) (by omega)
    obtain rfl : cs15 = [.int .i64 z14] := hK17
    refine Dr.read 3 _ 19 _ rfl rfl rfl rfl rfl (RV.of (by intro _ _ h; cases h) (.inl rfl) (fun _ xd => hP19 rfl rfl)) ?_
    refine Dr.read 4 _ 20 _ rfl rfl rfl rfl rfl (RV.of (by intro _ _ h; cases h) (.inl rfl) (fun _ xd => HV.ld rfl va2 (rdc_ext xd (cells_first (hC18.ext X11) rfl)))) ?_
    refine Dr.read 5 _ 21 _ rfl rfl rfl rfl rfl (RV.of (by intro _ _ h; cases h) (.inl rfl) (fun _ xd => HV.mv rfl)) ?_
    refine Dr.read 6 _ 22 _ rfl rfl rfl rfl rfl (RV.of (by intro _ _ h; cases h) (.inl rfl) (fun _ xd => HV.mv rfl)) ?_
    refine Dr.read 7 _ 23 _ rfl rfl rfl rfl rfl (RV.of (by intro _ _ h; cases h) (.inl rfl) (fun _ xd => HV.mv rfl)) ?_
    refine Dr.read 8 _ 24 _ rfl rfl rfl rfl rfl (RV.of (by intro _ _ h; cases h) (.inl rfl) (fun _ xd => HV.mv rfl)) ?_
    obtain ⟨p20, z21, cs22, hz23, hK24, hC25, hP26⟩ := RdK.ix (q := (i : Int)) hr3 sl25 (by omega) (by omega)
    obtain rfl : cs22 = [.int .i64 z21] := hK24
    refine Dr.read 9 _ 25 _ rfl rfl rfl rfl rfl (RV.of (by intro _ _ h; cases h) (.inl rfl) (fun _ xd => hP26 rfl rfl)) ?_
    refine Dr.read 10 _ 26 _ rfl rfl rfl rfl rfl (RV.of (by intro _ _ h; cases h) (.inl rfl) (fun _ xd => HV.ld rfl va2 (rdc_ext xd (cells_first (hC25.ext X11) rfl)))) ?_
    refine Dr.eff 11 _ _ rfl (by intro d h; cases h; exact ⟨rfl, rfl⟩) rfl rfl rfl (EC.of (by intro _ _ h; cases h) (.inl rfl) (WV.call fn44 rfl (l05Val_ok (hr.ext X11) z21 hp (by have q := ris_at hpt.2 hz23; omega) hc))) (fun v H' h => .inl (h.2)) ?_
    rintro _ H27 ⟨rfl, hx28⟩
    have X29 := Ext.trans X11 hx28
    have ho30 := hoL.ext hx28
    refine Dr.read 12 _ 28 _ rfl rfl rfl rfl rfl (RV.of (by intro _ _ h; cases h) (.inl rfl) (fun _ xd => HV.bd rfl (bd36_0_1 z14 (val p l z21)))) ?_
    have X31 := Ext.refl H27
    have o32 := X29.bd
    have o33 := X31.bd
    have a34 := ho30.ltb
    refine Dr.eff 13 _ _ rfl (by intro d h; cases h; exact ⟨rfl, rfl⟩) rfl rfl rfl (EC.of (by intro _ _ h; cases h) (.inl rfl) (WV.bsK (K := (kP kI kI)) (l := ([((z14, val p l z21) : (Int × Int))] : List (Int × Int))) (css := [[.int .i64 z14, .int .i64 (val p l z21)]]) sl28 rfl rfl (by first | rfl | (simp [Instr.fill, Value.cells, kI, kB, kU, kU8, kS, Kd.sc]; done) | (simp [Instr.fill, Value.cells, kI, kB, kU, kU8, kS, Kd.sc, rng1, rng2, rng3, rng4, kP])) rfl (segs_cons ⟨[.int .i64 z14], [.int .i64 (val p l z21)], rfl, rfl, rfl⟩ segs_nil))) (fun v H' h => .inl (h.1)) ?_
    rintro v35 H36 ⟨hx37, ho38⟩
    have X39 := Ext.trans X29 hx37
    have X40 := Ext.trans X31 hx37
    have ho41 := ho30.ext hx37
    have X43 := Ext.refl H36
    refine Dr.eff 14 _ _ rfl (by intro d h; cases h; exact ⟨rfl, rfl⟩) rfl rfl rfl (EC.of (by intro _ _ h; cases h) (.inl rfl) (WV.apk sl28 rfl rfl ho41 ho38.rd (by rw [hk2]; simp; omega) (by rw [hk2]; simp; omega) (fun b hb _ e => Nat.lt_irrefl _ (Nat.lt_of_lt_of_le (a34 b e) hb)))) (fun v H' h => .inr (.inl rfl)) ?_
    rintro v44 H45 ⟨hx46, ho47, hb48⟩
    have ho49 := ho47.narrow (ok' := fun b => H.bd ≤ b) (kP_flat kI_flat kI_flat) (fun b q => (hb48 b q).elim (fun e => (ho41.blk b e).1) (fun e => Nat.le_trans X39.bd e))
    have X50 := Ext.thru X39 hx46 (fun b hb => Nat.le_trans o3 (ho41.blk b hb).1)
    refine Dr.eff 15 _ _ rfl (by intro d h; cases h; exact ⟨rfl, rfl⟩) rfl rfl rfl (EC.of (by intro _ _ h; cases h) (.inl rfl) (WV.ofHV (HV.as rfl))) (fun v H' h => .inl (h.2 ▸ Ext.refl _)) ?_
    rintro u_ h_ ⟨e1_, e2_⟩
    rw [e1_, e2_]
    clear e1_ e2_ u_ h_
    refine Dr.fin rfl ?_
    refine nrm_blk (nrm_and ?_)
    refine AW.reg ?_
    refine AL.val rfl (.inl rfl) (HV.mv rfl) ?_
    refine AL.val rfl (.inl rfl) (HV.add rfl rfl (by omega)) ?_
    refine AL.val rfl (.inl rfl) (HV.as rfl) ?_
    refine AL.nil ?_
    refine nrm_and ?_
    exact ⟨(i + 1, v44, (k ++ (([((z14, val p l z21) : (Int × Int))] : List (Int × Int)) : List (Int × Int)))), ⟨X50, by omega, by rw [mapS_snoc hz16, hk, show z21 = z14 from same_at hz16 hz23], by simp [hk2], ho49, trivial⟩, by first | omega | (dsimp only; omega), ⟨rfl, rfl, rfl, rfl, rfl, rfl, trivial⟩⟩
  · -- else
    refine AW.exit ?_
    refine ex_and (ex_and (ex_blk ?_))
    refine nrm_and ?_
    refine AW.rs ?_
    refine AL.val rfl (.inl rfl) (HV.mv rfl) ?_
    refine AL.val rfl (.inl rfl) (HV.as rfl) ?_
    refine AL.nx ?_
    refine AW.ret ?_
    refine post_one rfl rfl ?_ (.inr rfl)
    exact ⟨X11, by have e : pts.take i = pts := List.take_of_length_le (by omega); have q := hoL.okk (fun b hb _ => Nat.le_trans o3 hb); rw [hk, e] at q; exact q⟩

set_option maxRecDepth 100000 in
theorem dealSh_ok {v vp : Value} {l pts : List Int} {ok ok3 : Nat → Prop} (p : Int) (hr : RdK kI W H ok v l) (hr3 : RdK kI W H ok3 vp pts) (hq : primeI p ∧ curveI p l) (hpt : ptsI p pts) : ACalls Tryz.prog W 9 #[.int .i64 p, v, vp] H (fun r H' => (∃ v, r = .tuple #[v, .int .i64 0] ∧ OwnK (kP kI kI) 36 W H' (fun b => H.bd ≤ b) v (pts.map (fun x => (x, val p l x)))) ∧ Ext H H') := by
  refine ACalls.of (args := [.int .i64 p, v, vp]) Tryz.func9 rfl rfl ?_
  have X0 := Ext.refl H
  have hm1 := hr.max
  have hm2 := hr3.max
  refine AW.rs ?_
  refine AL.val rfl (.inl rfl) (HV.as rfl) ?_
  refine AL.val rfl (.inl rfl) (HV.as rfl) ?_
  refine AL.nx ?_
  refine AW.seq ?_
  refine AW.rs ?_
  refine AL.val rfl (.inl rfl) (HV.mv rfl) ?_
  refine AL.val rfl (.inl rfl) (HV.mv rfl) ?_
  refine AL.w rfl (.inl rfl) (WV.call fn24 rfl (specVC_ok (p := p) hr)) ?_
  rintro _ H3 ⟨rfl, hx4⟩
  have X5 := Ext.trans X0 hx4
  refine AL.val rfl (.inl rfl) (HV.not rfl) ?_
  refine AL.nx ?_
  refine AW.ifn rfl (fun c6 => ?_) (fun c6 => ?_)
  · -- then
    refine AW.rs ?_
    have X7 := Ext.refl H3
    have o8 := X5.bd
    have o9 := X7.bd
    refine AL.w rfl (.inl rfl) (WV.bsK (K := (kP kI kI)) (l := ([] : List (Int × Int))) (css := []) sl28 rfl rfl (by first | rfl | (simp [Instr.fill, Value.cells, kI, kB, kU, kU8, kS, Kd.sc]; done) | (simp [Instr.fill, Value.cells, kI, kB, kU, kU8, kS, Kd.sc, rng1, rng2, rng3, rng4, kP])) rfl segs_nil) ?_
    rintro v10 H11 ⟨hx12, ho13⟩
    have X14 := Ext.trans X5 hx12
    have X15 := Ext.trans X7 hx12
    refine AL.val rfl (.inl rfl) (HV.as rfl) ?_
    refine AL.val rfl (.inl rfl) (HV.as rfl) ?_
    refine AL.nx ?_
    refine AW.ret ?_
    refine ret_and ?_
    refine post_two rfl rfl rfl ?_ (.inr rfl)
    exact absurd (by assumption) c6
  · -- else
    refine AW.skip ?_
    refine nrm_and ?_
    refine AW.seq ?_
    refine AW.rs ?_
    refine AL.val rfl (.inl rfl) (HV.mv rfl) ?_
    refine AL.val rfl (.inl rfl) (HV.mv rfl) ?_
    refine AL.w rfl (.inl rfl) (WV.call fn25 rfl (l05Pts_ok (hr3.ext X5) hq.1.1)) ?_
    rintro _ H17 ⟨rfl, hx18⟩
    have X19 := Ext.trans X5 hx18
    refine AL.val rfl (.inl rfl) (HV.not rfl) ?_
    refine AL.nx ?_
    refine AW.ifn rfl (fun c20 => ?_) (fun c20 => ?_)
    · -- then
      refine AW.rs ?_
      have X21 := Ext.refl H17
      have o22 := X19.bd
      have o23 := X21.bd
      refine AL.w rfl (.inl rfl) (WV.bsK (K := (kP kI kI)) (l := ([] : List (Int × Int))) (css := []) sl28 rfl rfl (by first | rfl | (simp [Instr.fill, Value.cells, kI, kB, kU, kU8, kS, Kd.sc]; done) | (simp [Instr.fill, Value.cells, kI, kB, kU, kU8, kS, Kd.sc, rng1, rng2, rng3, rng4, kP])) rfl segs_nil) ?_
      rintro v24 H25 ⟨hx26, ho27⟩
      have X28 := Ext.trans X19 hx26
      have X29 := Ext.trans X21 hx26
      refine AL.val rfl (.inl rfl) (HV.as rfl) ?_
      refine AL.val rfl (.inl rfl) (HV.as rfl) ?_
      refine AL.nx ?_
      refine AW.ret ?_
      refine ret_and ?_
      refine post_two rfl rfl rfl ?_ (.inr rfl)
      exact absurd (by assumption) c20
    · -- else
      refine AW.skip ?_
      refine nrm_and ?_
      refine AW.rs ?_
      refine AL.val rfl (.inl rfl) (HV.mv rfl) ?_
      refine AL.val rfl (.inl rfl) (HV.mv rfl) ?_
      refine AL.val rfl (.inl rfl) (HV.mv rfl) ?_
      have X31 := Ext.refl H17
      have o32 := X19.bd
      have o33 := X31.bd
      refine AL.w rfl (.inl rfl) (WV.call fn26 rfl (deal_ok p (hr.ext X19) (hr3.ext X19) (by assumption : primeI p ∧ curveI p _).1.1 (by assumption : primeI p ∧ curveI p _).2.2.1 (by assumption))) ?_
      rintro v34 H35 ⟨hx36, ho37⟩
      have X38 := Ext.trans X19 hx36
      have X39 := Ext.trans X31 hx36
      refine AL.val rfl (.inl rfl) (HV.as rfl) ?_
      refine AL.val rfl (.inl rfl) (HV.as rfl) ?_
      refine AL.nx ?_
      refine AW.ret ?_
      refine post_two rfl rfl rfl ?_ (.inr rfl)
      exact ⟨⟨_, rfl, ho37.okk (fun b hb _ => Nat.le_trans o32 hb)⟩, X38⟩

set_option maxRecDepth 100000 in
theorem cuAt_ok {v : Value} {l : List Int} {ok : Nat → Prop} (p : Int) (hr : RdK kI W H ok v l) (x : Int) (hq : primeI p ∧ curveI p l) (hx : 0 ≤ x ∧ x ≤ p - 1) : ACalls Tryz.prog W 17 #[.int .i64 p, v, .int .i64 x] H (fun r H' => r = .tuple #[.int .i64 (val p l x), .int .i64 0] ∧ Ext H H') := by
  refine ACalls.of (args := [.int .i64 p, v, .int .i64 x]) Tryz.func17 rfl rfl ?_
  have X0 := Ext.refl H
  have hm1 := hr.max
  refine AW.rs ?_
  refine AL.val rfl (.inl rfl) (HV.as rfl) ?_
  refine AL.val rfl (.inl rfl) (HV.as rfl) ?_
  refine AL.nx ?_
  refine AW.seq ?_
  refine AW.rs ?_
  refine AL.val rfl (.inl rfl) (HV.mv rfl) ?_
  refine AL.val rfl (.inl rfl) (HV.mv rfl) ?_
  refine AL.w rfl (.inl rfl) (WV.call fn35 rfl (validCu_ok (p := p) hr)) ?_
  rintro _ H2 ⟨rfl, hx3⟩
  have X4 := Ext.trans X0 hx3
  refine AL.val rfl (.inl rfl) (HV.not rfl) ?_
  refine AL.nx ?_
  refine AW.ifn rfl (fun c5 => ?_) (fun c5 => ?_)
  · -- then
    refine AW.rs ?_
    refine AL.val rfl (.inl rfl) (HV.as rfl) ?_
    refine AL.val rfl (.inl rfl) (HV.as rfl) ?_
    refine AL.nx ?_
    refine AW.ret ?_
    refine ret_and ?_
    refine post_two rfl rfl rfl ?_ (.inr rfl)
    exact absurd hq c5
  · -- else
    refine AW.skip ?_
    refine nrm_and ?_
    refine AW.seq ?_
    refine AW.rs ?_
    refine AL.val rfl (.inl rfl) (HV.mv rfl) ?_
    refine AL.val rfl (.inl rfl) (HV.mv rfl) ?_
    have X6 := Ext.refl H2
    have o7 := X4.bd
    have o8 := X6.bd
    refine AL.w rfl (.inl rfl) (WV.bsK (K := kI) (l := ([x] : List Int)) (css := [[.int .i64 x]]) sl25 rfl rfl (by first | rfl | (simp [Instr.fill, Value.cells, kI, kB, kU, kU8, kS, Kd.sc]; done) | (simp [Instr.fill, Value.cells, kI, kB, kU, kU8, kS, Kd.sc, rng1, rng2, rng3, rng4, kP])) rfl (segs_cons rfl segs_nil)) ?_
    rintro v9 H10 ⟨hx11, ho12⟩
    have X13 := Ext.trans X4 hx11
    have X14 := Ext.trans X6 hx11
    refine AL.w rfl (.inl rfl) (WV.call fn36 rfl (areEl_ok p ho12.rd)) ?_
    rintro _ H16 ⟨rfl, hx17⟩
    have X18 := Ext.trans X13 hx17
    have X19 := Ext.trans X14 hx17
    have ho20 := ho12.ext hx17
    refine AL.val rfl (.inl rfl) (HV.not rfl) ?_
    refine AL.nx ?_
    refine AW.ifn rfl (fun c21 => ?_) (fun c21 => ?_)
    · -- then
      refine AW.rs ?_
      refine AL.val rfl (.inl rfl) (HV.as rfl) ?_
      refine AL.val rfl (.inl rfl) (HV.as rfl) ?_
      refine AL.nx ?_
      refine AW.ret ?_
      refine ret_and ?_
      refine post_two rfl rfl rfl ?_ (.inr rfl)
      exact absurd ⟨hq.1, elems_one.2 hx⟩ c21
    · -- else
      refine AW.skip ?_
      refine nrm_and ?_
      refine AW.rs ?_
      refine AL.val rfl (.inl rfl) (HV.mv rfl) ?_
      refine AL.val rfl (.inl rfl) (HV.mv rfl) ?_
      refine AL.val rfl (.inl rfl) (HV.mv rfl) ?_
      refine AL.w rfl (.inl rfl) (WV.call fn37 rfl (curveAt_ok (hr.ext X18) x hq.1.1 (by omega) hq.2.2.1)) ?_
      rintro _ H22 ⟨rfl, hx23⟩
      have X24 := Ext.trans X18 hx23
      have X25 := Ext.trans X19 hx23
      have ho26 := ho20.ext hx23
      refine AL.val rfl (.inl rfl) (HV.as rfl) ?_
      refine AL.val rfl (.inl rfl) (HV.as rfl) ?_
      refine AL.nx ?_
      refine AW.ret ?_
      refine post_two rfl rfl rfl ?_ (.inr rfl)
      exact ⟨rfl, X24⟩

set_option maxRecDepth 100000 in
theorem f6ints_ok {v v2 : Value} {l m : List Int} {ok ok2 : Nat → Prop} (hr : RdK kI W H ok v l) (hr2 : RdK kI W H ok2 v2 m) : ACalls Tryz.prog W 13 #[v, v2] H (fun r H' => r = .bool (decide (l = m)) ∧ Ext H H') := by
  refine ACalls.of (args := [v, v2]) Tryz.func13 rfl rfl ?_
  have X0 := Ext.refl H
  have hm1 := hr.max
  have hm2 := hr2.max
  refine AW.rs ?_
  refine AL.val rfl (.inl rfl) (HV.as rfl) ?_
  refine AL.nx ?_
  refine AW.seq ?_
  refine AW.rs ?_
  refine AL.val rfl (.inl rfl) (HV.mv rfl) ?_
  refine AL.val rfl (.inl rfl) (HV.len Tryz.underlying25 rfl hr.isSl) ?_
  refine AL.val rfl (.inl rfl) (HV.mv rfl) ?_
  refine AL.val rfl (.inl rfl) (HV.len Tryz.underlying25 rfl hr2.isSl) ?_
  refine AL.val rfl (.inl rfl) (HV.nei rfl rfl) ?_
  refine AL.nx ?_
  refine AW.ifd rfl (fun c3 => ?_) (fun c3 => ?_)
  · -- then
    refine AW.rs ?_
    refine AL.val rfl (.inl rfl) (HV.as rfl) ?_
    refine AL.nx ?_
    refine AW.ret ?_
    refine ret_and ?_
    refine post_one rfl rfl ?_ (.inr rfl)
    exact ⟨dec_f (fun e => by subst e; omega), X0⟩
  · -- else
    refine AW.skip ?_
    refine nrm_and ?_
    refine AW.seq ?_
    refine AW.rs ?_
    refine AL.val rfl (.inl rfl) (HV.as rfl) ?_
    refine AL.nx ?_
    refine AW.block ?_
    refine AW.loop (σ := Nat) (fun i => [(0, v), (1, v2), (5, .int .i64 (i : Int))]) (fun i H' => Ext H H' ∧ i ≤ l.length ∧ (∀ j, j < i → l.getD j 0 = m.getD j 0) ∧ True) (fun i => l.length - i) 0 ⟨X0, Nat.zero_le _, fun j hj => absurd hj (Nat.not_lt_zero _), trivial⟩ ⟨rfl, rfl, rfl, trivial⟩ ?_
    rintro i H4 ⟨X5, hi, he, _⟩
    refine AW.seq ?_
    refine AW.rs ?_
    refine AL.val rfl (.inl rfl) (HV.mv rfl) ?_
    refine AL.val rfl (.inl rfl) (HV.mv rfl) ?_
    refine AL.val rfl (.inl rfl) (HV.len Tryz.underlying25 rfl hr.isSl) ?_
    refine AL.val rfl (.inl rfl) (HV.lti rfl rfl) ?_
    refine AL.nx ?_
    refine AW.ifd rfl (fun c6 => ?_) (fun c6 => ?_)
    · -- then
      refine AW.skip ?_
      refine nrm_and ?_
      refine AW.seq ?_
      refine AW.block ?_
      refine AW.seq ?_
      refine AW.draw' [0, 0, 3, 7, 0, 0, 48, 112, 255] mixed (by rfl) ?_
      refine Dr.read 0 _ 17 _ rfl rfl rfl rfl rfl (RV.of (by intro _ _ h; cases h) (.inl rfl) (fun _ xd => HV.mv rfl)) ?_
      refine Dr.read 1 _ 18 _ rfl rfl rfl rfl rfl (RV.of (by intro _ _ h; cases h) (.inl rfl) (fun _ xd => HV.mv rfl)) ?_
      obtain ⟨p7, z8, cs9, hz10, hK11, hC12, hP13⟩ := RdK.ix (q := (i : Int)) hr sl25 (by omega) (by omega)
      obtain rfl : cs9 = [.int .i64 z8] := hK11
      refine Dr.read 2 _ 19 _ rfl rfl rfl rfl rfl (RV.of (by intro _ _ h; cases h) (.inl rfl) (fun _ xd => hP13 rfl rfl)) ?_
      refine Dr.read 3 _ 20 _ rfl rfl rfl rfl rfl (RV.of (by intro _ _ h; cases h) (.inl rfl) (fun _ xd => HV.ld rfl va2 (rdc_ext xd (cells_first (hC12.ext X5) rfl)))) ?_
      refine Dr.read 4 _ 21 _ rfl rfl rfl rfl rfl (RV.of (by intro _ _ h; cases h) (.inl rfl) (fun _ xd => HV.mv rfl)) ?_
      refine Dr.read 5 _ 22 _ rfl rfl rfl rfl rfl (RV.of (by intro _ _ h; cases h) (.inl rfl) (fun _ xd => HV.mv rfl)) ?_
      obtain ⟨p14, z15, cs16, hz17, hK18, hC19, hP20⟩ := RdK.ix (q := (i : Int)) hr2 sl25 (by omega) (by omega)
      obtain rfl : cs16 = [.int .i64 z15] := hK18
      refine Dr.read 6 _ 23 _ rfl rfl rfl rfl rfl (RV.of (by intro _ _ h; cases h) (.inl rfl) (fun _ xd => hP20 rfl rfl)) ?_
      refine Dr.read 7 _ 24 _ rfl rfl rfl rfl rfl (RV.of (by intro _ _ h; cases h) (.inl rfl) (fun _ xd => HV.ld rfl va2 (rdc_ext xd (cells_first (hC19.ext X5) rfl)))) ?_
      refine Dr.read 8 _ 25 _ rfl rfl rfl rfl rfl (RV.of (by intro _ _ h; cases h) (.inl rfl) (fun _ xd => HV.nei rfl rfl)) ?_
      refine Dr.fin rfl ?_
      refine nrm_and ?_
      refine AW.ifd rfl (fun c21 => ?_) (fun c21 => ?_)
      · -- then
        refine AW.rs ?_
        refine AL.val rfl (.inl rfl) (HV.as rfl) ?_
        refine AL.nx ?_
        refine AW.ret ?_
        refine ret_blk (ret_and (ret_and (ret_blk (ret_and ?_))))
        refine post_one rfl rfl ?_ (.inr rfl)
        exact ⟨dec_f (fun e => by subst e; have g20 : l.getD i 0 = z8 := gd hz10 (by omega); have g24 : l.getD i 0 = z15 := gd hz17 (by omega); omega), X5⟩
      · -- else
        refine AW.skip ?_
        refine nrm_blk (nrm_and ?_)
        refine AW.reg ?_
        refine AL.val rfl (.inl rfl) (HV.mv rfl) ?_
        refine AL.val rfl (.inl rfl) (HV.add rfl rfl (by omega)) ?_
        refine AL.val rfl (.inl rfl) (HV.as rfl) ?_
        refine AL.nil ?_
        refine nrm_and ?_
        exact ⟨i + 1, ⟨X5, by omega, fun j hj => by
      rcases Nat.lt_or_ge j i with h1 | h1
      · exact he j h1
      · obtain rfl : j = i := by omega
        have g20 : l.getD j 0 = z8 := gd hz10 (by omega); have g24 : m.getD j 0 = z15 := gd hz17 (by omega); omega, trivial⟩, by first | omega | (dsimp only; omega), ⟨rfl, rfl, rfl, trivial⟩⟩
    · -- else
      refine AW.exit ?_
      refine ex_and (ex_and (ex_blk ?_))
      refine nrm_and ?_
      refine AW.rs ?_
      refine AL.val rfl (.inl rfl) (HV.as rfl) ?_
      refine AL.nx ?_
      refine AW.ret ?_
      refine post_one rfl rfl ?_ (.inr rfl)
      exact ⟨dec_t (list_eq (by omega) (fun j hj => he j (by omega))), X5⟩

set_option maxRecDepth 100000 in
theorem f6rows_ok {v v2 : Value} {l m : List (List Int)} {ok ok2 : Nat → Prop} (hr : RdK (kR kI) W H ok v l) (hr2 : RdK (kR kI) W H ok2 v2 m) : ACalls Tryz.prog W 16 #[v, v2] H (fun r H' => r = .bool (decide (l = m)) ∧ Ext H H') := by
  refine ACalls.of (args := [v, v2]) Tryz.func16 rfl rfl ?_
  have X0 := Ext.refl H
  have hm1 := hr.max
  have hm2 := hr2.max
  refine AW.rs ?_
  refine AL.val rfl (.inl rfl) (HV.as rfl) ?_
  refine AL.nx ?_
  refine AW.seq ?_
  refine AW.rs ?_
  refine AL.val rfl (.inl rfl) (HV.mv rfl) ?_
  refine AL.val rfl (.inl rfl) (HV.len Tryz.underlying37 rfl hr.isSl) ?_
  refine AL.val rfl (.inl rfl) (HV.mv rfl) ?_
  refine AL.val rfl (.inl rfl) (HV.len Tryz.underlying37 rfl hr2.isSl) ?_
  refine AL.val rfl (.inl rfl) (HV.nei rfl rfl) ?_
  refine AL.nx ?_
  refine AW.ifd rfl (fun c3 => ?_) (fun c3 => ?_)
  · -- then
    refine AW.rs ?_
    refine AL.val rfl (.inl rfl) (HV.as rfl) ?_
    refine AL.nx ?_
    refine AW.ret ?_
    refine ret_and ?_
    refine post_one rfl rfl ?_ (.inr rfl)
    exact ⟨dec_f (fun e => by subst e; omega), X0⟩
  · -- else
    refine AW.skip ?_
    refine nrm_and ?_
    refine AW.seq ?_
    refine AW.rs ?_
    refine AL.val rfl (.inl rfl) (HV.as rfl) ?_
    refine AL.nx ?_
    refine AW.block ?_
    refine AW.loop (σ := Nat) (fun i => [(0, v), (1, v2), (5, .int .i64 (i : Int))]) (fun i H' => Ext H H' ∧ i ≤ l.length ∧ (∀ j, j < i → l.getD j [] = m.getD j []) ∧ True) (fun i => l.length - i) 0 ⟨X0, Nat.zero_le _, fun j hj => absurd hj (Nat.not_lt_zero _), trivial⟩ ⟨rfl, rfl, rfl, trivial⟩ ?_
    rintro i H4 ⟨X5, hi, he, _⟩
    refine AW.seq ?_
    refine AW.rs ?_
    refine AL.val rfl (.inl rfl) (HV.mv rfl) ?_
    refine AL.val rfl (.inl rfl) (HV.mv rfl) ?_
    refine AL.val rfl (.inl rfl) (HV.len Tryz.underlying37 rfl hr.isSl) ?_
    refine AL.val rfl (.inl rfl) (HV.lti rfl rfl) ?_
    refine AL.nx ?_
    refine AW.ifd rfl (fun c6 => ?_) (fun c6 => ?_)
    · -- then
      refine AW.skip ?_
      refine nrm_and ?_
      refine AW.seq ?_
      refine AW.block ?_
      refine AW.seq ?_
      refine AW.draw' [0, 0, 3, 7, 0, 0, 48, 112, 255, 511] mixed (by rfl) ?_
      refine Dr.read 0 _ 17 _ rfl rfl rfl rfl rfl (RV.of (by intro _ _ h; cases h) (.inl rfl) (fun _ xd => HV.mv rfl)) ?_
      refine Dr.read 1 _ 18 _ rfl rfl rfl rfl rfl (RV.of (by intro _ _ h; cases h) (.inl rfl) (fun _ xd => HV.mv rfl)) ?_
      obtain ⟨p7, z8, cs9, hz10, hK11, hC12, hP13⟩ := RdK.ix (q := (i : Int)) hr sl37 (by omega) (by omega)
      obtain ⟨v14, rfl, hr15⟩ := hK11
      have hm16 := hr15.max
      refine Dr.read 2 _ 19 _ rfl rfl rfl rfl rfl (RV.of (by intro _ _ h; cases h) (.inl rfl) (fun _ xd => hP13 rfl rfl)) ?_
      refine Dr.read 3 _ 20 _ rfl rfl rfl rfl rfl (RV.of (by intro _ _ h; cases h) (.inl rfl) (fun _ xd => HV.ld rfl va25 (rdc_ext xd (cells_first (hC12.ext X5) rfl)))) ?_
      refine Dr.read 4 _ 21 _ rfl rfl rfl rfl rfl (RV.of (by intro _ _ h; cases h) (.inl rfl) (fun _ xd => HV.mv rfl)) ?_
      refine Dr.read 5 _ 22 _ rfl rfl rfl rfl rfl (RV.of (by intro _ _ h; cases h) (.inl rfl) (fun _ xd => HV.mv rfl)) ?_
      obtain ⟨p17, z18, cs19, hz20, hK21, hC22, hP23⟩ := RdK.ix (q := (i : Int)) hr2 sl37 (by omega) (by omega)
      obtain ⟨v24, rfl, hr25⟩ := hK21
      have hm26 := hr25.max
      refine Dr.read 6 _ 23 _ rfl rfl rfl rfl rfl (RV.of (by intro _ _ h; cases h) (.inl rfl) (fun _ xd => hP23 rfl rfl)) ?_
      refine Dr.read 7 _ 24 _ rfl rfl rfl rfl rfl (RV.of (by intro _ _ h; cases h) (.inl rfl) (fun _ xd => HV.ld rfl va25 (rdc_ext xd (cells_first (hC22.ext X5) rfl)))) ?_
      refine Dr.eff 8 _ _ rfl (by intro d h; cases h; exact ⟨rfl, rfl⟩) rfl rfl rfl (EC.of (by intro _ _ h; cases h) (.inl rfl) (WV.call fn13 rfl (f6ints_ok (hr15.ext X5) (hr25.ext X5)))) (fun v H' h => .inl (h.2)) ?_
      rintro _ H27 ⟨rfl, hx28⟩
      have X29 := Ext.trans X5 hx28
      refine Dr.read 9 _ 26 _ rfl rfl rfl rfl rfl (RV.of (by intro _ _ h; cases h) (.inl rfl) (fun _ xd => HV.not rfl)) ?_
      refine Dr.fin rfl ?_
      refine nrm_and ?_
      refine AW.ifn rfl (fun c30 => ?_) (fun c30 => ?_)
      · -- then
        refine AW.rs ?_
        refine AL.val rfl (.inl rfl) (HV.as rfl) ?_
        refine AL.nx ?_
        refine AW.ret ?_
        refine ret_blk (ret_and (ret_and (ret_blk (ret_and ?_))))
        refine post_one rfl rfl ?_ (.inr rfl)
        exact ⟨dec_f (fun e => by subst e; have g20 : l.getD i [] = z8 := gd hz10 (by omega); have g24 : l.getD i [] = z18 := gd hz20 (by omega); exact c30 (g20.symm.trans g24)), X29⟩
      · -- else
        refine AW.skip ?_
        refine nrm_blk (nrm_and ?_)
        refine AW.reg ?_
        refine AL.val rfl (.inl rfl) (HV.mv rfl) ?_
        refine AL.val rfl (.inl rfl) (HV.add rfl rfl (by omega)) ?_
        refine AL.val rfl (.inl rfl) (HV.as rfl) ?_
        refine AL.nil ?_
        refine nrm_and ?_
        exact ⟨i + 1, ⟨X29, by omega, fun j hj => by
      rcases Nat.lt_or_ge j i with h1 | h1
      · exact he j h1
      · obtain rfl : j = i := by omega
        have g20 : l.getD j [] = z8 := gd hz10 (by omega); have g24 : m.getD j [] = z18 := gd hz20 (by omega); rw [g20, g24]; exact c30, trivial⟩, by first | omega | (dsimp only; omega), ⟨rfl, rfl, rfl, trivial⟩⟩
    · -- else
      refine AW.exit ?_
      refine ex_and (ex_and (ex_blk ?_))
      refine nrm_and ?_
      refine AW.rs ?_
      refine AL.val rfl (.inl rfl) (HV.as rfl) ?_
      refine AL.nx ?_
      refine AW.ret ?_
      refine post_one rfl rfl ?_ (.inr rfl)
      exact ⟨dec_t (list_eq (by omega) (fun j hj => he j (by omega))), X5⟩

set_option maxRecDepth 100000 in
theorem f6big_ok {vc : Value} {l : List Int} {ok : Nat → Prop} (hr : RdK kU8 W H ok vc l) : ACalls Tryz.prog W 4 #[vc] H (fun r H' => r = .bool (decide ((l.length : Int) > 4096)) ∧ Ext H H') := by
  refine ACalls.of (args := [vc]) Tryz.func4 rfl rfl ?_
  have X0 := Ext.refl H
  have hm1 := hr.max
  refine AW.rs ?_
  refine AL.val rfl (.inl rfl) (HV.as rfl) ?_
  refine AL.nx ?_
  refine AW.rs ?_
  refine AL.val rfl (.inl rfl) (HV.mv rfl) ?_
  refine AL.val rfl (.inl rfl) (HV.len Tryz.underlying22 rfl hr.isSl) ?_
  refine AL.val rfl (.inl rfl) (HV.gti rfl rfl) ?_
  refine AL.val rfl (.inl rfl) (HV.as rfl) ?_
  refine AL.nx ?_
  refine AW.ret ?_
  refine post_one rfl rfl ?_ (.inr rfl)
  exact ⟨rfl, X0⟩

set_option maxRecDepth 100000 in
theorem p6Spoil_ok {vc : Value} {l : List Int} (hr : RdK kU8 W H (fun _ => False) vc l) (hby : bytes l) {vs : Value} {S : List (Int × Int)} {ok2 : Nat → Prop} (hrS : RdK (kP kI kI) W H ok2 vs S) (p n : Int) (hp : 2 ≤ p ∧ p ≤ 31) (hn : 0 ≤ n ∧ n ≤ 10) (hS10 : S.length ≤ 10) (hSv : ∀ j, j < S.length → 0 ≤ (S.getD j (0, 0)).2 ∧ (S.getD j (0, 0)).2 ≤ p - 1) : ACalls Tryz.prog W 10 #[vc, .int .i64 p, vs, .int .i64 n] H (fun r H' => (∃ k, OwnK (kP kI kI) 36 W H' (fun b => H.bd ≤ b) r k ∧ Spl p S k n) ∧ Ext H H') := by
  refine ACalls.of (args := [vc, .int .i64 p, vs, .int .i64 n]) Tryz.func10 rfl rfl ?_
  have X0 := Ext.refl H
  have hm1 := hr.max
  have hm2 := hrS.max
  refine AW.rs ?_
  refine AL.val rfl (.inl rfl) (HV.as rfl) ?_
  refine AL.nx ?_
  refine AW.rs ?_
  refine AL.val rfl (.inl rfl) (HV.mv rfl) ?_
  refine AL.w rfl (.inl rfl) (WV.call fn18 rfl (from_ok hr)) ?_
  rintro _ H4 ⟨b3, rfl, hn5, hb6, hx7⟩
  have o8 := Nat.le_trans X0.bd hn5
  have X9 := Ext.trans X0 hx7
  have X10 := Ext.refl H4
  refine AL.val rfl (.inl rfl) (HV.as rfl) ?_
  refine AL.nx ?_
  refine AW.rs ?_
  have y11 := hb6.lt
  have o12 := X9.bd
  have o13 := X10.bd
  refine AL.w rfl (.inl rfl) (WV.bsK (K := (kP kI kI)) (l := ([] : List (Int × Int))) (css := []) sl28 rfl rfl (by first | rfl | (simp [Instr.fill, Value.cells, kI, kB, kU, kU8, kS, Kd.sc]; done) | (simp [Instr.fill, Value.cells, kI, kB, kU, kU8, kS, Kd.sc, rng1, rng2, rng3, rng4, kP])) rfl segs_nil) ?_
  rintro v14 H15 ⟨hx16, ho17⟩
  have X18 := Ext.trans X9 hx16
  have X19 := Ext.trans X10 hx16
  have hb20 := hb6.ext hx16
  refine AL.val rfl (.inl rfl) (HV.mv rfl) ?_
  have X22 := Ext.refl H15
  refine AL.w rfl (.inl rfl) (WV.apk sl28 rfl rfl ho17 (hrS.lo.ext X18) (by simp; omega) (by simp; omega) (fun b hb _ e => by have h1 : H4.bd ≤ b := (ho17.blk b e).1; have h2 : b < H.bd := hb; have h3 := o12; omega)) ?_
  rintro v23 H24 ⟨hx25, ho26, hb27⟩
  have ho28 := ho26.narrow (ok' := fun b => H4.bd ≤ b) (kP_flat kI_flat kI_flat) (fun b q => (hb27 b q).elim (fun e => (ho17.blk b e).1) (fun e => Nat.le_trans X19.bd e))
  have X29 := Ext.thru X18 hx25 (fun b hb => Nat.le_trans o12 (ho17.blk b hb).1)
  have X30 := Ext.thru X19 hx25 (fun b hb => Nat.le_trans o13 (ho17.blk b hb).1)
  have q32 := Nat.le_trans X22.bd hx25.bd
  have hb33 := hb20.but hx25 (fun e => by have q : H4.bd ≤ _ := (ho17.blk _ e).1; omega)
  refine AL.val rfl (.inl rfl) (HV.as rfl) ?_
  refine AL.nx ?_
  refine AW.seq ?_
  refine AW.rs ?_
  refine AL.val rfl (.inl rfl) (HV.mv rfl) ?_
  refine AL.val rfl (.inl rfl) (HV.mv rfl) ?_
  refine AL.val rfl (.inl rfl) (HV.add rfl rfl (by omega)) ?_
  refine AL.w rfl (.inl rfl) (WV.call fn22 rfl (pick_ok (hr.ext X29) hby hb33 (by omega) (n + 1))) ?_
  rintro _ H34 ⟨⟨q35, a36, s37, rfl, h38, h39, hb40⟩, hx41⟩
  have q42 := Nat.le_trans q32 hx41.bd
  have X43 := Ext.thru X29 hx41 (fun z_ hz_ => by rw [hz_]; exact o8)
  have q45 := Nat.le_trans X30.bd hx41.bd
  have ho46 := ho28.but hx41 (fun b hb _ e => by have hb' : H4.bd ≤ b := hb; have e' : b = b3 := e; omega) (fun z_ hz_ => by rw [hz_]; exact hb33.w)
  refine AL.val rfl (.inl rfl) (HV.as rfl) ?_
  refine AL.nx ?_
  refine AW.block ?_
  have hq0 := h38
  refine AW.loop (σ := Int × List (Int × Int) × Int × Int) (fun ⟨x, k, a1, s1⟩ => [(1, .int .i64 p), (8, (.slice none 0 0)), (9, .pointer (some ⟨b3, 0, none⟩)), (10, v23), (10, v23), (11, .int .i64 x)]) (fun ⟨x, k, a1, s1⟩ H' => Ext H H' ∧ H4.bd ≤ H'.bd ∧ (0 ≤ x ∧ x ≤ n) ∧ Spl p S k (n - x) ∧ (0 ≤ a1 ∧ a1 ≤ 50 - 4 * x) ∧ OwnK (kP kI kI) 36 W H' (fun b => H4.bd ≤ b) v23 k ∧ At W H' b3 ⟨61, [vc, .int .i64 a1, .int .u64 s1], 3⟩ ∧ True) (fun ⟨x, k, a1, s1⟩ => x.toNat) (q35, ((([] : List (Int × Int)) : List (Int × Int)) ++ S), a36, s37) ⟨X43, q45, by omega, by have q : Spl p S ([] ++ S) 0 := Spl.refl hSv; exact ⟨q.len, q.pts, q.els, by have := q.dif; omega⟩, by omega, ho46, hb40, trivial⟩ ⟨rfl, rfl, rfl, rfl, rfl, rfl, trivial⟩ ?_
  rintro ⟨x, k, a1, s1⟩ H47 ⟨X48, q49, hx, hSp, ha1, hoL, hbL, _⟩
  have hkl := hSp.len
  refine AW.seq ?_
  refine AW.rs ?_
  refine AL.val rfl (.inl rfl) (HV.mv rfl) ?_
  refine AL.val rfl (.inl rfl) (HV.gti rfl rfl) ?_
  refine AL.val rfl (.inl rfl) (HV.mv rfl) ?_
  by_cases c50 : x > 0
  · -- true
    have c50_ : decide (x > 0) = true := decide_eq_true c50
    rw [c50_]
    refine AL.val rfl (.inr ⟨_, _, _, rfl, rfl, rfl⟩) (HV.mv rfl) ?_
    refine AL.val rfl (.inr ⟨_, _, _, rfl, rfl, rfl⟩) (HV.len Tryz.underlying28 rfl hoL.rd.isSl) ?_
    refine AL.val rfl (.inr ⟨_, _, _, rfl, rfl, rfl⟩) (HV.gti rfl rfl) ?_
    refine AL.val rfl (.inl rfl) (HV.pickT rfl rfl) ?_
    refine AL.nx ?_
    refine AW.ifd rfl (fun c51 => ?_) (fun c51 => ?_)
    · -- then
      refine AW.skip ?_
      refine nrm_and ?_
      refine AW.seq ?_
      refine AW.block ?_
      refine AW.reg ?_
      refine AL.val rfl (.inl rfl) (HV.mv rfl) ?_
      refine AL.val rfl (.inl rfl) (HV.mv rfl) ?_
      refine AL.val rfl (.inl rfl) (HV.mv rfl) ?_
      refine AL.val rfl (.inl rfl) (HV.len Tryz.underlying28 rfl hoL.rd.isSl) ?_
      refine AL.w rfl (.inl rfl) (WV.call fn22 rfl (pick_ok (hr.ext X48) hby hbL (by omega) (k.length : Int))) ?_
      rintro _ H52 ⟨⟨q53, a54, s55, rfl, h56, h57, hb58⟩, hx59⟩
      have q60 := Nat.le_trans q49 hx59.bd
      have X61 := Ext.thru X48 hx59 (fun z_ hz_ => by rw [hz_]; exact o8)
      have ho62 := hoL.but hx59 (fun b hb _ e => by have hb' : H4.bd ≤ b := hb; have e' : b = b3 := e; omega) (fun z_ hz_ => by rw [hz_]; exact hbL.w)
      refine AL.val rfl (.inl rfl) (HV.mv rfl) ?_
      refine AL.val rfl (.inl rfl) (HV.mv rfl) ?_
      refine AL.w rfl (.inl rfl) (WV.call fn22 rfl (pick_ok (hr.ext X61) hby hb58 (by omega) p)) ?_
      rintro _ H63 ⟨⟨q64, a65, s66, rfl, h67, h68, hb69⟩, hx70⟩
      have q71 := Nat.le_trans q60 hx70.bd
      have X72 := Ext.thru X61 hx70 (fun z_ hz_ => by rw [hz_]; exact o8)
      have ho73 := ho62.but hx70 (fun b hb _ e => by have hb' : H4.bd ≤ b := hb; have e' : b = b3 := e; omega) (fun z_ hz_ => by rw [hz_]; exact hb58.w)
      obtain ⟨g74, z75, cs76, hz77, hK78, hC79, hg80, hP81⟩ := OwnK.ix (q := q53) ho73 sl28 (by have := h56; omega) (by have := h56; omega)
      have X82 := Ext.refl H63
      obtain ⟨cs83, cs84, rfl, hK85, hK86⟩ := hK78
      obtain rfl : cs83 = [.int .i64 z75.1] := hK85
      obtain rfl : cs84 = [.int .i64 z75.2] := hK86
      refine AL.val rfl (.inl rfl) (hP81 rfl rfl) ?_
      refine AL.val rfl (.inl rfl) (HV.fa fl36_1 rfl) ?_
      refine AL.w0 (.inl rfl) (WV.stF (x' := (z75.1, q64)) (off := 1) (kP_flat kI_flat kI_flat) ho73 hg80 rfl rfl va2 rfl hz77 (by decide) (one_cons rfl one_nil) (fun cs hc => by obtain ⟨_, _, rfl, rfl, rfl⟩ := hc; exact ⟨[.int .i64 z75.1], [.int .i64 q64], rfl, rfl, rfl⟩)) ?_
      rintro _ H87 ⟨hx88, ho89⟩
      have q91 := Nat.le_trans q71 hx88.bd
      have X92 := Ext.thru X72 hx88 (fun b hb => Nat.le_trans o12 (ho73.blk b hb).1)
      have q94 := Nat.le_trans X82.bd hx88.bd
      have hb95 := hb69.but hx88 (fun e => by have q : H4.bd ≤ _ := (ho73.blk _ e).1; omega)
      refine AL.nil ?_
      refine nrm_blk (nrm_and ?_)
      refine AW.reg ?_
      refine AL.val rfl (.inl rfl) (HV.mv rfl) ?_
      refine AL.val rfl (.inl rfl) (HV.sub rfl rfl (by omega)) ?_
      refine AL.val rfl (.inl rfl) (HV.as rfl) ?_
      refine AL.nil ?_
      refine nrm_and ?_
      exact ⟨(x - 1, (k.set (q53 : Int).toNat (z75.1, q64)), a65, s66), ⟨X92, q91, by omega, hSp.set hz77 (by have := h67; omega) (by omega), by omega, ho89, hb95, trivial⟩, by first | omega | (dsimp only; omega), ⟨rfl, rfl, rfl, rfl, rfl, rfl, trivial⟩⟩
    · -- else
      refine AW.exit ?_
      refine ex_and (ex_and (ex_blk ?_))
      refine nrm_and ?_
      refine AW.rs ?_
      refine AL.val rfl (.inl rfl) (HV.mv rfl) ?_
      refine AL.val rfl (.inl rfl) (HV.as rfl) ?_
      refine AL.nx ?_
      refine AW.ret ?_
      refine post_one rfl rfl ?_ (.inr rfl)
      exact ⟨⟨_, hoL.okk (fun b hb _ => Nat.le_trans o12 hb), ⟨hSp.len, hSp.pts, hSp.els, by have := hSp.dif; omega⟩⟩, X48⟩
  · -- false
    have c50_ : decide (x > 0) = false := decide_eq_false c50
    rw [c50_]
    refine AL.off rfl rfl (by decide) rfl ?_
    refine AL.off rfl rfl (by decide) rfl ?_
    refine AL.off rfl rfl (by decide) rfl ?_
    refine AL.val rfl (.inl rfl) (HV.pickF rfl rfl) ?_
    refine AL.nx ?_
    refine AW.cond rfl (fun h => by cases h) (fun _ => ?_)
    refine AW.exit ?_
    refine ex_and (ex_and (ex_blk ?_))
    refine nrm_and ?_
    refine AW.rs ?_
    refine AL.val rfl (.inl rfl) (HV.mv rfl) ?_
    refine AL.val rfl (.inl rfl) (HV.as rfl) ?_
    refine AL.nx ?_
    refine AW.ret ?_
    refine post_one rfl rfl ?_ (.inr rfl)
    exact ⟨⟨_, hoL.okk (fun b hb _ => Nat.le_trans o12 hb), ⟨hSp.len, hSp.pts, hSp.els, by have := hSp.dif; omega⟩⟩, X48⟩
end Go.Proofs.YtbjcgcililpfdaaGreat.VC

