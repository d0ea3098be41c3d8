/-
  No cell of these rows narrows 'for every input' (looked for: loops, veiled, ifaces, maps, wideKeys, modest, calm, conditions, laid).
  DERIVED. THE GIVEN ROWS OF THIS SEAT. 12 by the template 'for every input the law returns true; each argument reads behind the call as it read before'; 0 by the template 'total and deterministic' (their statements: YtemdeeepamnbcaaTotals.lean).
  GIVEN WITH THE SEED: the statements are not yours to turn. If you find one false, say at which input.
  Laid BY PROGRAM, IN A SANDBOX (cutbox-rows.mjs): the forced cells as the released guide's own fill.sh prints them over the translation 23cd5a78b14a6e30… (all of the seat's roots in one cut). By AI agents, Wed Nov 11 2026. No macro, syntax, notation, axiom, sorry.
-/
import Derived.Test.YtemdeeepamnbcaaChecked
import GoSem.Claim
import GoSem.ClaimJoined
import GoSem.ClaimMapViews
import Derived.JoinedTies
import Derived.KernelRfl
namespace Go.Proofs.Ytemdeeepamnbcaa
/- THE CELL 'sum', in the pinned program and in every row, IS THE sha256 OF THE DUMP (.gsa) THAT YtemdeeepamnbcaaProg.lean LOADS. Nothing in Lean hashes anything: it is a label: what it is worth is what the hold of that sum in a sandbox is worth. -/
noncomputable def Try.pinned : Pinned := { name := "ytemdeeepamnbcaa", sum := "23cd5a78b14a6e3046ae21f18f32258bf7fd91040b230bf6e1ebeafb5c5aa5a5", checked := Try.checked }
namespace Rows
def none {H : Type} : Left H := { results := [], args := [] }

/-- 'laws.FnExactValidCurve': WHATEVER THE INPUT: true; the input reads as it did. -/
def fnExactValidCurveSpec : ChangeSpec := { name := "fnExactValidCurve", fn := fun _ => fun
  | [d1, d2] => { results := [.lit (.bool true)], args := [d1, d2] }
  | _ => none }
def fnExactValidCurveRow : OpenClaim := { program := "ytemdeeepamnbcaa", sum := "23cd5a78b14a6e3046ae21f18f32258bf7fd91040b230bf6e1ebeafb5c5aa5a5", func := "loop.example/g01117/laws.FnExactValidCurve", spec := "fnExactValidCurve", unfollowed := true, recurses := true, apart := false }
def FnExactValidCurveSaid : Prop := fnExactValidCurveRow.holds Try.pinned (OpenSpec.ofChange fnExactValidCurveSpec)

/-- ITS FALSE NEIGHBOUR: 'it returns false'. Refute it at one input. -/
def fnExactValidCurveWrong : ChangeSpec := { name := "fnExactValidCurve", fn := fun _ => fun
  | [d1, d2] => { results := [.lit (.bool false)], args := [d1, d2] }
  | _ => none }
def FnExactValidCurveWrongFalsely : Prop := fnExactValidCurveRow.holds Try.pinned (OpenSpec.ofChange fnExactValidCurveWrong)

/-- 'laws.FnExactCurveAt': WHATEVER THE INPUT: true; the input reads as it did. -/
def fnExactCurveAtSpec : ChangeSpec := { name := "fnExactCurveAt", fn := fun _ => fun
  | [d1, d2, d3] => { results := [.lit (.bool true)], args := [d1, d2, d3] }
  | _ => none }
def fnExactCurveAtRow : OpenClaim := { program := "ytemdeeepamnbcaa", sum := "23cd5a78b14a6e3046ae21f18f32258bf7fd91040b230bf6e1ebeafb5c5aa5a5", func := "loop.example/g01117/laws.FnExactCurveAt", spec := "fnExactCurveAt", unfollowed := true, recurses := true, apart := false }
def FnExactCurveAtSaid : Prop := fnExactCurveAtRow.holds Try.pinned (OpenSpec.ofChange fnExactCurveAtSpec)

/-- ITS FALSE NEIGHBOUR: 'it returns false'. Refute it at one input. -/
def fnExactCurveAtWrong : ChangeSpec := { name := "fnExactCurveAt", fn := fun _ => fun
  | [d1, d2, d3] => { results := [.lit (.bool false)], args := [d1, d2, d3] }
  | _ => none }
def FnExactCurveAtWrongFalsely : Prop := fnExactCurveAtRow.holds Try.pinned (OpenSpec.ofChange fnExactCurveAtWrong)

/-- 'laws.FnExactValidShares': WHATEVER THE INPUT: true; the input reads as it did. -/
def fnExactValidSharesSpec : ChangeSpec := { name := "fnExactValidShares", fn := fun _ => fun
  | [d1, d2] => { results := [.lit (.bool true)], args := [d1, d2] }
  | _ => none }
def fnExactValidSharesRow : OpenClaim := { program := "ytemdeeepamnbcaa", sum := "23cd5a78b14a6e3046ae21f18f32258bf7fd91040b230bf6e1ebeafb5c5aa5a5", func := "loop.example/g01117/laws.FnExactValidShares", spec := "fnExactValidShares", unfollowed := true, recurses := true, apart := false }
def FnExactValidSharesSaid : Prop := fnExactValidSharesRow.holds Try.pinned (OpenSpec.ofChange fnExactValidSharesSpec)

/-- ITS FALSE NEIGHBOUR: 'it returns false'. Refute it at one input. -/
def fnExactValidSharesWrong : ChangeSpec := { name := "fnExactValidShares", fn := fun _ => fun
  | [d1, d2] => { results := [.lit (.bool false)], args := [d1, d2] }
  | _ => none }
def FnExactValidSharesWrongFalsely : Prop := fnExactValidSharesRow.holds Try.pinned (OpenSpec.ofChange fnExactValidSharesWrong)

/-- 'laws.FnExactAddCurves': WHATEVER THE INPUT: true; the input reads as it did. -/
def fnExactAddCurvesSpec : ChangeSpec := { name := "fnExactAddCurves", fn := fun _ => fun
  | [d1, d2, d3] => { results := [.lit (.bool true)], args := [d1, d2, d3] }
  | _ => none }
def fnExactAddCurvesRow : OpenClaim := { program := "ytemdeeepamnbcaa", sum := "23cd5a78b14a6e3046ae21f18f32258bf7fd91040b230bf6e1ebeafb5c5aa5a5", func := "loop.example/g01117/laws.FnExactAddCurves", spec := "fnExactAddCurves", unfollowed := true, recurses := true, apart := false }
def FnExactAddCurvesSaid : Prop := fnExactAddCurvesRow.holds Try.pinned (OpenSpec.ofChange fnExactAddCurvesSpec)

/-- ITS FALSE NEIGHBOUR: 'it returns false'. Refute it at one input. -/
def fnExactAddCurvesWrong : ChangeSpec := { name := "fnExactAddCurves", fn := fun _ => fun
  | [d1, d2, d3] => { results := [.lit (.bool false)], args := [d1, d2, d3] }
  | _ => none }
def FnExactAddCurvesWrongFalsely : Prop := fnExactAddCurvesRow.holds Try.pinned (OpenSpec.ofChange fnExactAddCurvesWrong)

/-- 'laws.FnExactJoinEnrolled': WHATEVER THE INPUT: true; the input reads as it did. -/
def fnExactJoinEnrolledSpec : ChangeSpec := { name := "fnExactJoinEnrolled", fn := fun _ => fun
  | [d1, d2] => { results := [.lit (.bool true)], args := [d1, d2] }
  | _ => none }
def fnExactJoinEnrolledRow : OpenClaim := { program := "ytemdeeepamnbcaa", sum := "23cd5a78b14a6e3046ae21f18f32258bf7fd91040b230bf6e1ebeafb5c5aa5a5", func := "loop.example/g01117/laws.FnExactJoinEnrolled", spec := "fnExactJoinEnrolled", unfollowed := true, recurses := true, apart := false }
def FnExactJoinEnrolledSaid : Prop := fnExactJoinEnrolledRow.holds Try.pinned (OpenSpec.ofChange fnExactJoinEnrolledSpec)

/-- ITS FALSE NEIGHBOUR: 'it returns false'. Refute it at one input. -/
def fnExactJoinEnrolledWrong : ChangeSpec := { name := "fnExactJoinEnrolled", fn := fun _ => fun
  | [d1, d2] => { results := [.lit (.bool false)], args := [d1, d2] }
  | _ => none }
def FnExactJoinEnrolledWrongFalsely : Prop := fnExactJoinEnrolledRow.holds Try.pinned (OpenSpec.ofChange fnExactJoinEnrolledWrong)

/-- 'laws.FnExactScaleCurve': WHATEVER THE INPUT: true; the input reads as it did. -/
def fnExactScaleCurveSpec : ChangeSpec := { name := "fnExactScaleCurve", fn := fun _ => fun
  | [d1, d2, d3] => { results := [.lit (.bool true)], args := [d1, d2, d3] }
  | _ => none }
def fnExactScaleCurveRow : OpenClaim := { program := "ytemdeeepamnbcaa", sum := "23cd5a78b14a6e3046ae21f18f32258bf7fd91040b230bf6e1ebeafb5c5aa5a5", func := "loop.example/g01117/laws.FnExactScaleCurve", spec := "fnExactScaleCurve", unfollowed := true, recurses := true, apart := false }
def FnExactScaleCurveSaid : Prop := fnExactScaleCurveRow.holds Try.pinned (OpenSpec.ofChange fnExactScaleCurveSpec)

/-- ITS FALSE NEIGHBOUR: 'it returns false'. Refute it at one input. -/
def fnExactScaleCurveWrong : ChangeSpec := { name := "fnExactScaleCurve", fn := fun _ => fun
  | [d1, d2, d3] => { results := [.lit (.bool false)], args := [d1, d2, d3] }
  | _ => none }
def FnExactScaleCurveWrongFalsely : Prop := fnExactScaleCurveRow.holds Try.pinned (OpenSpec.ofChange fnExactScaleCurveWrong)

/-- 'laws.FnExactWeightsFor': WHATEVER THE INPUT: true; the input reads as it did. -/
def fnExactWeightsForSpec : ChangeSpec := { name := "fnExactWeightsFor", fn := fun _ => fun
  | [d1, d2, d3] => { results := [.lit (.bool true)], args := [d1, d2, d3] }
  | _ => none }
def fnExactWeightsForRow : OpenClaim := { program := "ytemdeeepamnbcaa", sum := "23cd5a78b14a6e3046ae21f18f32258bf7fd91040b230bf6e1ebeafb5c5aa5a5", func := "loop.example/g01117/laws.FnExactWeightsFor", spec := "fnExactWeightsFor", unfollowed := true, recurses := true, apart := false }
def FnExactWeightsForSaid : Prop := fnExactWeightsForRow.holds Try.pinned (OpenSpec.ofChange fnExactWeightsForSpec)

/-- ITS FALSE NEIGHBOUR: 'it returns false'. Refute it at one input. -/
def fnExactWeightsForWrong : ChangeSpec := { name := "fnExactWeightsFor", fn := fun _ => fun
  | [d1, d2, d3] => { results := [.lit (.bool false)], args := [d1, d2, d3] }
  | _ => none }
def FnExactWeightsForWrongFalsely : Prop := fnExactWeightsForRow.holds Try.pinned (OpenSpec.ofChange fnExactWeightsForWrong)

/-- 'laws.FnExactDealShares': WHATEVER THE INPUT: true; the input reads as it did. -/
def fnExactDealSharesSpec : ChangeSpec := { name := "fnExactDealShares", fn := fun _ => fun
  | [d1, d2, d3] => { results := [.lit (.bool true)], args := [d1, d2, d3] }
  | _ => none }
def fnExactDealSharesRow : OpenClaim := { program := "ytemdeeepamnbcaa", sum := "23cd5a78b14a6e3046ae21f18f32258bf7fd91040b230bf6e1ebeafb5c5aa5a5", func := "loop.example/g01117/laws.FnExactDealShares", spec := "fnExactDealShares", unfollowed := true, recurses := true, apart := false }
def FnExactDealSharesSaid : Prop := fnExactDealSharesRow.holds Try.pinned (OpenSpec.ofChange fnExactDealSharesSpec)

/-- ITS FALSE NEIGHBOUR: 'it returns false'. Refute it at one input. -/
def fnExactDealSharesWrong : ChangeSpec := { name := "fnExactDealShares", fn := fun _ => fun
  | [d1, d2, d3] => { results := [.lit (.bool false)], args := [d1, d2, d3] }
  | _ => none }
def FnExactDealSharesWrongFalsely : Prop := fnExactDealSharesRow.holds Try.pinned (OpenSpec.ofChange fnExactDealSharesWrong)

/-- 'laws.FnExactMultiplyShares': WHATEVER THE INPUT: true; the input reads as it did. -/
def fnExactMultiplySharesSpec : ChangeSpec := { name := "fnExactMultiplyShares", fn := fun _ => fun
  | [d1, d2, d3] => { results := [.lit (.bool true)], args := [d1, d2, d3] }
  | _ => none }
def fnExactMultiplySharesRow : OpenClaim := { program := "ytemdeeepamnbcaa", sum := "23cd5a78b14a6e3046ae21f18f32258bf7fd91040b230bf6e1ebeafb5c5aa5a5", func := "loop.example/g01117/laws.FnExactMultiplyShares", spec := "fnExactMultiplyShares", unfollowed := true, recurses := true, apart := false }
def FnExactMultiplySharesSaid : Prop := fnExactMultiplySharesRow.holds Try.pinned (OpenSpec.ofChange fnExactMultiplySharesSpec)

/-- ITS FALSE NEIGHBOUR: 'it returns false'. Refute it at one input. -/
def fnExactMultiplySharesWrong : ChangeSpec := { name := "fnExactMultiplyShares", fn := fun _ => fun
  | [d1, d2, d3] => { results := [.lit (.bool false)], args := [d1, d2, d3] }
  | _ => none }
def FnExactMultiplySharesWrongFalsely : Prop := fnExactMultiplySharesRow.holds Try.pinned (OpenSpec.ofChange fnExactMultiplySharesWrong)

/-- 'laws.FnExactOpenAt': WHATEVER THE INPUT: true; the input reads as it did. -/
def fnExactOpenAtSpec : ChangeSpec := { name := "fnExactOpenAt", fn := fun _ => fun
  | [d1, d2, d3] => { results := [.lit (.bool true)], args := [d1, d2, d3] }
  | _ => none }
def fnExactOpenAtRow : OpenClaim := { program := "ytemdeeepamnbcaa", sum := "23cd5a78b14a6e3046ae21f18f32258bf7fd91040b230bf6e1ebeafb5c5aa5a5", func := "loop.example/g01117/laws.FnExactOpenAt", spec := "fnExactOpenAt", unfollowed := true, recurses := true, apart := false }
def FnExactOpenAtSaid : Prop := fnExactOpenAtRow.holds Try.pinned (OpenSpec.ofChange fnExactOpenAtSpec)

/-- ITS FALSE NEIGHBOUR: 'it returns false'. Refute it at one input. -/
def fnExactOpenAtWrong : ChangeSpec := { name := "fnExactOpenAt", fn := fun _ => fun
  | [d1, d2, d3] => { results := [.lit (.bool false)], args := [d1, d2, d3] }
  | _ => none }
def FnExactOpenAtWrongFalsely : Prop := fnExactOpenAtRow.holds Try.pinned (OpenSpec.ofChange fnExactOpenAtWrong)

/-- 'laws.FnExactPackSecrets': WHATEVER THE INPUT: true; the input reads as it did. -/
def fnExactPackSecretsSpec : ChangeSpec := { name := "fnExactPackSecrets", fn := fun _ => fun
  | [d1, d2, d3] => { results := [.lit (.bool true)], args := [d1, d2, d3] }
  | _ => none }
def fnExactPackSecretsRow : OpenClaim := { program := "ytemdeeepamnbcaa", sum := "23cd5a78b14a6e3046ae21f18f32258bf7fd91040b230bf6e1ebeafb5c5aa5a5", func := "loop.example/g01117/laws.FnExactPackSecrets", spec := "fnExactPackSecrets", unfollowed := true, recurses := true, apart := false }
def FnExactPackSecretsSaid : Prop := fnExactPackSecretsRow.holds Try.pinned (OpenSpec.ofChange fnExactPackSecretsSpec)

/-- ITS FALSE NEIGHBOUR: 'it returns false'. Refute it at one input. -/
def fnExactPackSecretsWrong : ChangeSpec := { name := "fnExactPackSecrets", fn := fun _ => fun
  | [d1, d2, d3] => { results := [.lit (.bool false)], args := [d1, d2, d3] }
  | _ => none }
def FnExactPackSecretsWrongFalsely : Prop := fnExactPackSecretsRow.holds Try.pinned (OpenSpec.ofChange fnExactPackSecretsWrong)

/-- 'laws.FnExactLiesOn': WHATEVER THE INPUT: true; the input reads as it did. -/
def fnExactLiesOnSpec : ChangeSpec := { name := "fnExactLiesOn", fn := fun _ => fun
  | [d1, d2, d3] => { results := [.lit (.bool true)], args := [d1, d2, d3] }
  | _ => none }
def fnExactLiesOnRow : OpenClaim := { program := "ytemdeeepamnbcaa", sum := "23cd5a78b14a6e3046ae21f18f32258bf7fd91040b230bf6e1ebeafb5c5aa5a5", func := "loop.example/g01117/laws.FnExactLiesOn", spec := "fnExactLiesOn", unfollowed := true, recurses := true, apart := false }
def FnExactLiesOnSaid : Prop := fnExactLiesOnRow.holds Try.pinned (OpenSpec.ofChange fnExactLiesOnSpec)

/-- ITS FALSE NEIGHBOUR: 'it returns false'. Refute it at one input. -/
def fnExactLiesOnWrong : ChangeSpec := { name := "fnExactLiesOn", fn := fun _ => fun
  | [d1, d2, d3] => { results := [.lit (.bool false)], args := [d1, d2, d3] }
  | _ => none }
def FnExactLiesOnWrongFalsely : Prop := fnExactLiesOnRow.holds Try.pinned (OpenSpec.ofChange fnExactLiesOnWrong)

/- THE SECOND FORM. 'bulk': how many values and letters a reading holds, each counted each time it is reached (what is shared counts as often as it is met; a slice's spare places count too). A statement '..UptoSaid' is the law's where the arguments, and the package variables that the reading takes, are together of bulk at most 1048576: NARROWER than '..Said'. Prove '..Said' where nothing that the law and all that it calls make is longer than what came in: it says more and counts as full. Else prove '..UptoSaid'. A law counts once. -/
mutual
def uptoBulk {H : Type} : DataW H → Nat
  | .lit (.string bytes) => bytes.length + 1
  | .lit _ => 1
  | .nil => 1
  | .ptr d => uptoBulk d + 1
  | .slice elems spare => uptoBulkAll elems + uptoBulkAll spare + 1
  | .agg parts => uptoBulkAll parts + 1
  | .iface _ d => uptoBulk d + 1
  | .map entries => uptoBulkEntries entries + 1
  | .held _ => 1
def uptoBulkAll {H : Type} : List (DataW H) → Nat
  | [] => 0
  | d :: r => uptoBulk d + uptoBulkAll r
def uptoBulkEntries {H : Type} : List (Lit × DataW H) → Nat
  | [] => 0
  | x :: r => uptoBulkEntry x + uptoBulkEntries r
def uptoBulkEntry {H : Type} : Lit × DataW H → Nat
  | (.string bytes, d) => bytes.length + uptoBulk d + 1
  | (_, d) => uptoBulk d + 1
 end
def uptoSmall : (H : Type) → List (DataW H) → Bool := fun _ ds => decide (uptoBulkAll ds ≤ 1048576)
def OpenSpec.upto (s : _root_.Go.ChangeSpec) : _root_.Go.OpenSpec := { _root_.Go.OpenSpec.ofChange s with cond := some uptoSmall }

/-- 'laws.FnExactValidCurve', WHERE WHAT IT READS IS OF BULK AT MOST 1048576: true; the input reads as it did. -/
def fnExactValidCurveUptoRow : OpenClaim := { program := "ytemdeeepamnbcaa", sum := "23cd5a78b14a6e3046ae21f18f32258bf7fd91040b230bf6e1ebeafb5c5aa5a5", func := "loop.example/g01117/laws.FnExactValidCurve", spec := "fnExactValidCurve", unfollowed := true, recurses := true, apart := false, narrowed := true }
def FnExactValidCurveUptoSaid : Prop := fnExactValidCurveUptoRow.holds Try.pinned (OpenSpec.upto fnExactValidCurveSpec)

/-- 'laws.FnExactCurveAt', WHERE WHAT IT READS IS OF BULK AT MOST 1048576: true; the input reads as it did. -/
def fnExactCurveAtUptoRow : OpenClaim := { program := "ytemdeeepamnbcaa", sum := "23cd5a78b14a6e3046ae21f18f32258bf7fd91040b230bf6e1ebeafb5c5aa5a5", func := "loop.example/g01117/laws.FnExactCurveAt", spec := "fnExactCurveAt", unfollowed := true, recurses := true, apart := false, narrowed := true }
def FnExactCurveAtUptoSaid : Prop := fnExactCurveAtUptoRow.holds Try.pinned (OpenSpec.upto fnExactCurveAtSpec)

/-- 'laws.FnExactValidShares', WHERE WHAT IT READS IS OF BULK AT MOST 1048576: true; the input reads as it did. -/
def fnExactValidSharesUptoRow : OpenClaim := { program := "ytemdeeepamnbcaa", sum := "23cd5a78b14a6e3046ae21f18f32258bf7fd91040b230bf6e1ebeafb5c5aa5a5", func := "loop.example/g01117/laws.FnExactValidShares", spec := "fnExactValidShares", unfollowed := true, recurses := true, apart := false, narrowed := true }
def FnExactValidSharesUptoSaid : Prop := fnExactValidSharesUptoRow.holds Try.pinned (OpenSpec.upto fnExactValidSharesSpec)

/-- 'laws.FnExactAddCurves', WHERE WHAT IT READS IS OF BULK AT MOST 1048576: true; the input reads as it did. -/
def fnExactAddCurvesUptoRow : OpenClaim := { program := "ytemdeeepamnbcaa", sum := "23cd5a78b14a6e3046ae21f18f32258bf7fd91040b230bf6e1ebeafb5c5aa5a5", func := "loop.example/g01117/laws.FnExactAddCurves", spec := "fnExactAddCurves", unfollowed := true, recurses := true, apart := false, narrowed := true }
def FnExactAddCurvesUptoSaid : Prop := fnExactAddCurvesUptoRow.holds Try.pinned (OpenSpec.upto fnExactAddCurvesSpec)

/-- 'laws.FnExactJoinEnrolled', WHERE WHAT IT READS IS OF BULK AT MOST 1048576: true; the input reads as it did. -/
def fnExactJoinEnrolledUptoRow : OpenClaim := { program := "ytemdeeepamnbcaa", sum := "23cd5a78b14a6e3046ae21f18f32258bf7fd91040b230bf6e1ebeafb5c5aa5a5", func := "loop.example/g01117/laws.FnExactJoinEnrolled", spec := "fnExactJoinEnrolled", unfollowed := true, recurses := true, apart := false, narrowed := true }
def FnExactJoinEnrolledUptoSaid : Prop := fnExactJoinEnrolledUptoRow.holds Try.pinned (OpenSpec.upto fnExactJoinEnrolledSpec)

/-- 'laws.FnExactScaleCurve', WHERE WHAT IT READS IS OF BULK AT MOST 1048576: true; the input reads as it did. -/
def fnExactScaleCurveUptoRow : OpenClaim := { program := "ytemdeeepamnbcaa", sum := "23cd5a78b14a6e3046ae21f18f32258bf7fd91040b230bf6e1ebeafb5c5aa5a5", func := "loop.example/g01117/laws.FnExactScaleCurve", spec := "fnExactScaleCurve", unfollowed := true, recurses := true, apart := false, narrowed := true }
def FnExactScaleCurveUptoSaid : Prop := fnExactScaleCurveUptoRow.holds Try.pinned (OpenSpec.upto fnExactScaleCurveSpec)

/-- 'laws.FnExactWeightsFor', WHERE WHAT IT READS IS OF BULK AT MOST 1048576: true; the input reads as it did. -/
def fnExactWeightsForUptoRow : OpenClaim := { program := "ytemdeeepamnbcaa", sum := "23cd5a78b14a6e3046ae21f18f32258bf7fd91040b230bf6e1ebeafb5c5aa5a5", func := "loop.example/g01117/laws.FnExactWeightsFor", spec := "fnExactWeightsFor", unfollowed := true, recurses := true, apart := false, narrowed := true }
def FnExactWeightsForUptoSaid : Prop := fnExactWeightsForUptoRow.holds Try.pinned (OpenSpec.upto fnExactWeightsForSpec)

/-- 'laws.FnExactDealShares', WHERE WHAT IT READS IS OF BULK AT MOST 1048576: true; the input reads as it did. -/
def fnExactDealSharesUptoRow : OpenClaim := { program := "ytemdeeepamnbcaa", sum := "23cd5a78b14a6e3046ae21f18f32258bf7fd91040b230bf6e1ebeafb5c5aa5a5", func := "loop.example/g01117/laws.FnExactDealShares", spec := "fnExactDealShares", unfollowed := true, recurses := true, apart := false, narrowed := true }
def FnExactDealSharesUptoSaid : Prop := fnExactDealSharesUptoRow.holds Try.pinned (OpenSpec.upto fnExactDealSharesSpec)

/-- 'laws.FnExactMultiplyShares', WHERE WHAT IT READS IS OF BULK AT MOST 1048576: true; the input reads as it did. -/
def fnExactMultiplySharesUptoRow : OpenClaim := { program := "ytemdeeepamnbcaa", sum := "23cd5a78b14a6e3046ae21f18f32258bf7fd91040b230bf6e1ebeafb5c5aa5a5", func := "loop.example/g01117/laws.FnExactMultiplyShares", spec := "fnExactMultiplyShares", unfollowed := true, recurses := true, apart := false, narrowed := true }
def FnExactMultiplySharesUptoSaid : Prop := fnExactMultiplySharesUptoRow.holds Try.pinned (OpenSpec.upto fnExactMultiplySharesSpec)

/-- 'laws.FnExactOpenAt', WHERE WHAT IT READS IS OF BULK AT MOST 1048576: true; the input reads as it did. -/
def fnExactOpenAtUptoRow : OpenClaim := { program := "ytemdeeepamnbcaa", sum := "23cd5a78b14a6e3046ae21f18f32258bf7fd91040b230bf6e1ebeafb5c5aa5a5", func := "loop.example/g01117/laws.FnExactOpenAt", spec := "fnExactOpenAt", unfollowed := true, recurses := true, apart := false, narrowed := true }
def FnExactOpenAtUptoSaid : Prop := fnExactOpenAtUptoRow.holds Try.pinned (OpenSpec.upto fnExactOpenAtSpec)

/-- 'laws.FnExactPackSecrets', WHERE WHAT IT READS IS OF BULK AT MOST 1048576: true; the input reads as it did. -/
def fnExactPackSecretsUptoRow : OpenClaim := { program := "ytemdeeepamnbcaa", sum := "23cd5a78b14a6e3046ae21f18f32258bf7fd91040b230bf6e1ebeafb5c5aa5a5", func := "loop.example/g01117/laws.FnExactPackSecrets", spec := "fnExactPackSecrets", unfollowed := true, recurses := true, apart := false, narrowed := true }
def FnExactPackSecretsUptoSaid : Prop := fnExactPackSecretsUptoRow.holds Try.pinned (OpenSpec.upto fnExactPackSecretsSpec)

/-- 'laws.FnExactLiesOn', WHERE WHAT IT READS IS OF BULK AT MOST 1048576: true; the input reads as it did. -/
def fnExactLiesOnUptoRow : OpenClaim := { program := "ytemdeeepamnbcaa", sum := "23cd5a78b14a6e3046ae21f18f32258bf7fd91040b230bf6e1ebeafb5c5aa5a5", func := "loop.example/g01117/laws.FnExactLiesOn", spec := "fnExactLiesOn", unfollowed := true, recurses := true, apart := false, narrowed := true }
def FnExactLiesOnUptoSaid : Prop := fnExactLiesOnUptoRow.holds Try.pinned (OpenSpec.upto fnExactLiesOnSpec)

end Rows
end Go.Proofs.Ytemdeeepamnbcaa
