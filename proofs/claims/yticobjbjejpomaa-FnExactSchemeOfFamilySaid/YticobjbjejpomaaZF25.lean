/- Walks. -/
import Derived.Test.YticobjbjejpomaaZF24
set_option linter.unusedVariables false
set_option linter.unusedSimpArgs false
namespace Go.Proofs.Yticobjbjejpomaa.VC
open Go Go.RowKit
theorem lgC_ok {n p : Int} {d : Nat} {z : GT d} (h : lgC n p d z = 0) : okSc n (gsO p d z) p (gsK p d z : Int) (gsL p d z) := by
  unfold lgC at h
  split at h
  · omega
  · split at h
    · assumption
    · omega
theorem sc_len {n : Int} {o : List Int} {p k : Int} {l : List (List Int)} {C : Int} (hk : C = 0 → okSc n o p k l) : (zL C o).length ≤ 1048576 ∧ (zL C l).length ≤ 1048576 ∧ ∀ x ∈ zL C l, x.length ≤ 1048576 := by
  by_cases h : C = 0
  · rw [zL_yes h, zL_yes h]
    have hF := okSc_f (hk h)
    have a1 := hF.R
    have a2 := hF.ol
    have a3 := hF.k1
    refine ⟨by omega, by omega, fun x hx => ?_⟩
    obtain ⟨i, hi, rfl⟩ := List.getElem_of_mem hx
    have := (hF.r i hi).1
    have e : l.getD i [] = l[i] := by simp [hi]
    rw [e] at this
    omega
  · rw [zL_no h, zL_no h]
    exact ⟨Nat.zero_le _, Nat.zero_le _, fun x hx => by cases hx⟩
variable {W : World} {H : Hp}

end Go.Proofs.Yticobjbjejpomaa.VC

