/- Walks. -/
import Derived.Test.YtbjcgcililpfdaaZN8
set_option linter.unusedVariables false
set_option linter.unusedSimpArgs false
namespace Go.Proofs.Ytbjcgcililpfdaa.VC
open Go Go.RowKit
variable {W : World} {H : Hp}

noncomputable def neC (p : Int) (l : List (Int × Int)) (dg ag : Int) : Int := if vS p l then if (0 ≤ dg ∧ dg ≤ 6) ∧ dg + 1 ≤ ag ∧ ag ≤ 10 then if (nearK p l dg ag).length ≤ 300 then 0 else 3 else 2 else 1
noncomputable def neL (p : Int) (l : List (Int × Int)) (dg ag : Int) : List (List Int) := if neC p l dg ag = 0 then nearK p l dg ag else []
theorem nearK_len (p : Int) (l : List (Int × Int)) (dg ag : Int) (h : l.length ≤ 10) : (nearK p l dg ag).length ≤ 1024 := by
  have q := wk_len (tryC_len p l ag) (m := (dg + 1).toNat) l [] []
  have q2 := Nat.pow_le_pow_right (n := 2) (by decide) h
  unfold nearK
  simp only [List.length_nil] at q
  omega
end Go.Proofs.Ytbjcgcililpfdaa.VC

