/- What is left of a row without neighbours that are alike. -/
import Derived.Test.YtbjcgcililpfdaaGreatZND
set_option linter.unusedVariables false
set_option linter.unusedSimpArgs false
namespace Go.Proofs.YtbjcgcililpfdaaGreat.VC
open Go Go.RowKit
def nilT : RT := (.slice none 0 0, [], 0)
def keepT (ts : List RT) (j : Nat) : Prop := j = 0 ∨ (ts.getD j nilT).2.1 ≠ (ts.getD (j - 1) nilT).2.1
instance (ts : List RT) (j : Nat) : Decidable (keepT ts j) := by unfold keepT; infer_instance
def thinN (ts : List RT) (n : Nat) : List RT := ((List.range n).filter (fun j => decide (keepT ts j))).map (fun j => ts.getD j nilT)
theorem thinN_y {ts : List RT} {n : Nat} (h : keepT ts n) : thinN ts (n + 1) = thinN ts n ++ [ts.getD n nilT] := by
  unfold thinN; simp [List.range_succ, List.filter_append, h]
theorem thinN_n {ts : List RT} {n : Nat} (h : ¬ keepT ts n) : thinN ts (n + 1) = thinN ts n := by
  unfold thinN; simp [List.range_succ, List.filter_append, h]
theorem thinN_take {ts : List RT} : ∀ {n : Nat}, n ≤ ts.length → (∀ j, j < n → keepT ts j) → thinN ts n = ts.take n
  | 0, _, _ => rfl
  | n + 1, h, hk => by
    rw [thinN_y (hk n (by omega)), thinN_take (by omega) (fun j hj => hk j (by omega)), List.take_succ_eq_append_getElem (by omega)]
    simp [show n < ts.length by omega]
theorem thinN_sub (ts : List RT) : (thinN ts ts.length).Sublist ts := by
  have h : ((List.range ts.length).map (fun j => ts.getD j nilT)) = ts := by
    apply List.ext_getElem (by simp)
    intro j a1 a2
    simp [a2]
  have h2 := (List.filter_sublist (p := fun j => decide (keepT ts j)) (l := List.range ts.length)).map (fun j => ts.getD j nilT)
  rw [h] at h2
  exact h2
theorem thinN_mem {ts : List RT} : ∀ (j n : Nat), j < n → ∃ y ∈ thinN ts n, y.2.1 = (ts.getD j nilT).2.1
  | j, n, hj => by
    by_cases hk : keepT ts j
    · exact ⟨_, List.mem_map.2 ⟨j, List.mem_filter.2 ⟨List.mem_range.2 hj, by simpa using hk⟩, rfl⟩, rfl⟩
    · cases j with
      | zero => exact absurd (.inl rfl) hk
      | succ j =>
        obtain ⟨y, h1, h2⟩ := thinN_mem (ts := ts) j n (by omega)
        refine ⟨y, h1, h2.trans ?_⟩
        have : ¬ (ts.getD (j + 1) nilT).2.1 ≠ (ts.getD j nilT).2.1 := fun e => hk (.inr e)
        exact (Decidable.not_not.1 this).symm
theorem thin_pw {ts : List RT} (h : ts.Pairwise (fun x y => ¬ lessC y.2.1 x.2.1)) : ((thinN ts ts.length).map (fun x => x.2.1)).Pairwise lessC := by
  have hg : ∀ i j, i < j → j < ts.length → ¬ lessC (ts.getD j nilT).2.1 (ts.getD i nilT).2.1 := fun i j hij hj => by
    have := List.pairwise_iff_getElem.1 h i j (by omega) hj hij
    simpa [hj, show i < ts.length by omega] using this
  unfold thinN
  rw [List.map_map, List.pairwise_map, List.pairwise_filter]
  refine List.Pairwise.imp_of_mem ?_ List.pairwise_lt_range
  intro i j hi hj hij _ hkj
  have hjl := List.mem_range.1 hj
  have hk : keepT ts j := by simpa using hkj
  show lessC (ts.getD i nilT).2.1 (ts.getD j nilT).2.1
  by_cases e : (ts.getD i nilT).2.1 = (ts.getD j nilT).2.1
  · exfalso
    rcases hk with hk | hk
    · omega
    · by_cases e2 : i = j - 1
      · rw [e2] at e; exact hk e.symm
      · have h1 := hg (j - 1) j (by omega) hjl
        have h2 := hg i (j - 1) (by omega) (by omega)
        rw [e] at h2
        have q := lessC_tot h1 hk
        exact h2 q
  · exact lessC_tot (hg i j hij hjl) (fun q => e q.symm)
/-- The lists that are left, and those that were. -/
theorem thin_ok {ts : List RT} (h : ts.Pairwise (fun x y => ¬ lessC y.2.1 x.2.1)) : ((thinN ts ts.length).map (fun x => x.2.1)).Pairwise lessC ∧ ∀ c, c ∈ (thinN ts ts.length).map (fun x => x.2.1) ↔ c ∈ ts.map (fun x => x.2.1) := by
  refine ⟨thin_pw h, fun c => ⟨fun hc => ((thinN_sub ts).map _).subset hc, fun hc => ?_⟩⟩
  obtain ⟨x, hx, rfl⟩ := List.mem_map.1 hc
  obtain ⟨j, hj, rfl⟩ := List.getElem_of_mem hx
  obtain ⟨y, h1, h2⟩ := thinN_mem (ts := ts) j ts.length hj
  exact List.mem_map.2 ⟨y, h1, by rw [h2]; simp [hj]⟩
end Go.Proofs.YtbjcgcililpfdaaGreat.VC

