/- Walks. -/
import Derived.Test.YticobjbjejpomaaZF10
set_option linter.unusedVariables false
set_option linter.unusedSimpArgs false
namespace Go.Proofs.Yticobjbjejpomaa.VC
open Go Go.RowKit
variable {W : World} {H : Hp}

end Go.Proofs.Yticobjbjejpomaa.VC

