/- Walks. -/
import Derived.Test.YticobjbjejpomaaZF23
set_option linter.unusedVariables false
set_option linter.unusedSimpArgs false
namespace Go.Proofs.Yticobjbjejpomaa.VC
open Go Go.RowKit
variable {W : World} {H : Hp}
/-! ### Gates that are the call's own: they may be marked -/
def kGf : (d : Nat) → Kd (GT d)
  | 0 =>
    { sz := 3
      rd := fun _ _ _ _ _ => False
      len := fun h => h.elim
      one := fun h => h.elim
      but := fun _ _ _ h => h.elim
      okk := fun _ h => h.elim }
  | d + 1 => kP kI (kP kI (kO 61 (kGf d)))
variable {W : World} {H : Hp}

end Go.Proofs.Yticobjbjejpomaa.VC

