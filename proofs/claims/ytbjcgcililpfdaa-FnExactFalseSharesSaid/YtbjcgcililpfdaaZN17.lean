/- Walks. -/
import Derived.Test.YtbjcgcililpfdaaZN16
set_option linter.unusedVariables false
set_option linter.unusedSimpArgs false
namespace Go.Proofs.Ytbjcgcililpfdaa.VC
open Go Go.RowKit
variable {W : World} {H : Hp}

theorem near_short {p : Int} {l : List (Int × Int)} {dg ag : Int} (hv : vS p l) (hd : 0 ≤ dg) : ∀ x ∈ nearK p l dg ag, x.length ≤ 10 := fun x hx => by
  obtain ⟨U, h1, h2, rfl, h4⟩ := ((wk_near (p := p) (l := l) (ag := ag) (m := (dg + 1).toNat) (by omega)).2 x).1 hx
  have q1 := thrC_len p U
  have q2 := h1.length_le
  have q3 := vS_len hv
  omega
end Go.Proofs.Ytbjcgcililpfdaa.VC

