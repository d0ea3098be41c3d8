/-
  No cell of these rows narrows 'for every input' (looked for: loops, veiled, ifaces, maps, wideKeys, modest, calm, conditions, laid).
  DERIVED. THE GIVEN ROWS OF THIS SEAT. 12 by the template 'for every input the law returns true; each argument reads behind the call as it read before'; 0 by the template 'total and deterministic' (their statements: YtonpikcbmgmchaaTotals.lean).
  GIVEN WITH THE SEED: the statements are not yours to turn. If you find one false, say at which input.
  Laid BY PROGRAM, IN A SANDBOX (cutbox-rows.mjs): the forced cells as the released guide's own fill.sh prints them over the translation ff02371ab149bb26… (all of the seat's roots in one cut). By AI agents, Wed Nov 11 2026. No macro, syntax, notation, axiom, sorry.
-/
import Derived.Test.YtonpikcbmgmchaaChecked
import GoSem.Claim
import GoSem.ClaimJoined
import GoSem.ClaimMapViews
import Derived.JoinedTies
import Derived.KernelRfl
namespace Go.Proofs.Ytonpikcbmgmchaa
/- THE CELL 'sum', in the pinned program and in every row, IS THE sha256 OF THE DUMP (.gsa) THAT YtonpikcbmgmchaaProg.lean LOADS. Nothing in Lean hashes anything: it is a label: what it is worth is what the hold of that sum in a sandbox is worth. -/
noncomputable def Try.pinned : Pinned := { name := "ytonpikcbmgmchaa", sum := "ff02371ab149bb26a44e5e3068097d40674080da9b9972018dfea94132a6031d", checked := Try.checked }
namespace Rows
def none {H : Type} : Left H := { results := [], args := [] }

/-- 'laws.FnExactUnpackSecrets': WHATEVER THE INPUT: true; the input reads as it did. -/
def fnExactUnpackSecretsSpec : ChangeSpec := { name := "fnExactUnpackSecrets", fn := fun _ => fun
  | [d1, d2, d3] => { results := [.lit (.bool true)], args := [d1, d2, d3] }
  | _ => none }
def fnExactUnpackSecretsRow : OpenClaim := { program := "ytonpikcbmgmchaa", sum := "ff02371ab149bb26a44e5e3068097d40674080da9b9972018dfea94132a6031d", func := "loop.example/g01117/laws.FnExactUnpackSecrets", spec := "fnExactUnpackSecrets", unfollowed := true, recurses := true, apart := false }
def FnExactUnpackSecretsSaid : Prop := fnExactUnpackSecretsRow.holds Try.pinned (OpenSpec.ofChange fnExactUnpackSecretsSpec)

/-- ITS FALSE NEIGHBOUR: 'it returns false'. Refute it at one input. -/
def fnExactUnpackSecretsWrong : ChangeSpec := { name := "fnExactUnpackSecrets", fn := fun _ => fun
  | [d1, d2, d3] => { results := [.lit (.bool false)], args := [d1, d2, d3] }
  | _ => none }
def FnExactUnpackSecretsWrongFalsely : Prop := fnExactUnpackSecretsRow.holds Try.pinned (OpenSpec.ofChange fnExactUnpackSecretsWrong)

/-- 'laws.FnExactCurveThrough': WHATEVER THE INPUT: true; the input reads as it did. -/
def fnExactCurveThroughSpec : ChangeSpec := { name := "fnExactCurveThrough", fn := fun _ => fun
  | [d1, d2] => { results := [.lit (.bool true)], args := [d1, d2] }
  | _ => none }
def fnExactCurveThroughRow : OpenClaim := { program := "ytonpikcbmgmchaa", sum := "ff02371ab149bb26a44e5e3068097d40674080da9b9972018dfea94132a6031d", func := "loop.example/g01117/laws.FnExactCurveThrough", spec := "fnExactCurveThrough", unfollowed := true, recurses := true, apart := false }
def FnExactCurveThroughSaid : Prop := fnExactCurveThroughRow.holds Try.pinned (OpenSpec.ofChange fnExactCurveThroughSpec)

/-- ITS FALSE NEIGHBOUR: 'it returns false'. Refute it at one input. -/
def fnExactCurveThroughWrong : ChangeSpec := { name := "fnExactCurveThrough", fn := fun _ => fun
  | [d1, d2] => { results := [.lit (.bool false)], args := [d1, d2] }
  | _ => none }
def FnExactCurveThroughWrongFalsely : Prop := fnExactCurveThroughRow.holds Try.pinned (OpenSpec.ofChange fnExactCurveThroughWrong)

/-- 'laws.FnExactRefreshShares': WHATEVER THE INPUT: true; the input reads as it did. -/
def fnExactRefreshSharesSpec : ChangeSpec := { name := "fnExactRefreshShares", fn := fun _ => fun
  | [d1, d2, d3] => { results := [.lit (.bool true)], args := [d1, d2, d3] }
  | _ => none }
def fnExactRefreshSharesRow : OpenClaim := { program := "ytonpikcbmgmchaa", sum := "ff02371ab149bb26a44e5e3068097d40674080da9b9972018dfea94132a6031d", func := "loop.example/g01117/laws.FnExactRefreshShares", spec := "fnExactRefreshShares", unfollowed := true, recurses := true, apart := false }
def FnExactRefreshSharesSaid : Prop := fnExactRefreshSharesRow.holds Try.pinned (OpenSpec.ofChange fnExactRefreshSharesSpec)

/-- ITS FALSE NEIGHBOUR: 'it returns false'. Refute it at one input. -/
def fnExactRefreshSharesWrong : ChangeSpec := { name := "fnExactRefreshShares", fn := fun _ => fun
  | [d1, d2, d3] => { results := [.lit (.bool false)], args := [d1, d2, d3] }
  | _ => none }
def FnExactRefreshSharesWrongFalsely : Prop := fnExactRefreshSharesRow.holds Try.pinned (OpenSpec.ofChange fnExactRefreshSharesWrong)

/-- 'laws.FnExactCountSecrets': WHATEVER THE INPUT: true; the input reads as it did. -/
def fnExactCountSecretsSpec : ChangeSpec := { name := "fnExactCountSecrets", fn := fun _ => fun
  | [d1, d2, d3] => { results := [.lit (.bool true)], args := [d1, d2, d3] }
  | _ => none }
def fnExactCountSecretsRow : OpenClaim := { program := "ytonpikcbmgmchaa", sum := "ff02371ab149bb26a44e5e3068097d40674080da9b9972018dfea94132a6031d", func := "loop.example/g01117/laws.FnExactCountSecrets", spec := "fnExactCountSecrets", unfollowed := true, recurses := true, apart := false }
def FnExactCountSecretsSaid : Prop := fnExactCountSecretsRow.holds Try.pinned (OpenSpec.ofChange fnExactCountSecretsSpec)

/-- ITS FALSE NEIGHBOUR: 'it returns false'. Refute it at one input. -/
def fnExactCountSecretsWrong : ChangeSpec := { name := "fnExactCountSecrets", fn := fun _ => fun
  | [d1, d2, d3] => { results := [.lit (.bool false)], args := [d1, d2, d3] }
  | _ => none }
def FnExactCountSecretsWrongFalsely : Prop := fnExactCountSecretsRow.holds Try.pinned (OpenSpec.ofChange fnExactCountSecretsWrong)

/-- 'laws.FnExactEnrollParts': WHATEVER THE INPUT: true; the input reads as it did. -/
def fnExactEnrollPartsSpec : ChangeSpec := { name := "fnExactEnrollParts", fn := fun _ => fun
  | [d1, d2, d3, d4] => { results := [.lit (.bool true)], args := [d1, d2, d3, d4] }
  | _ => none }
def fnExactEnrollPartsRow : OpenClaim := { program := "ytonpikcbmgmchaa", sum := "ff02371ab149bb26a44e5e3068097d40674080da9b9972018dfea94132a6031d", func := "loop.example/g01117/laws.FnExactEnrollParts", spec := "fnExactEnrollParts", unfollowed := true, recurses := true, apart := false }
def FnExactEnrollPartsSaid : Prop := fnExactEnrollPartsRow.holds Try.pinned (OpenSpec.ofChange fnExactEnrollPartsSpec)

/-- ITS FALSE NEIGHBOUR: 'it returns false'. Refute it at one input. -/
def fnExactEnrollPartsWrong : ChangeSpec := { name := "fnExactEnrollParts", fn := fun _ => fun
  | [d1, d2, d3, d4] => { results := [.lit (.bool false)], args := [d1, d2, d3, d4] }
  | _ => none }
def FnExactEnrollPartsWrongFalsely : Prop := fnExactEnrollPartsRow.holds Try.pinned (OpenSpec.ofChange fnExactEnrollPartsWrong)

/-- 'laws.FnExactReshareTo': WHATEVER THE INPUT: true; the input reads as it did. -/
def fnExactReshareToSpec : ChangeSpec := { name := "fnExactReshareTo", fn := fun _ => fun
  | [d1, d2, d3, d4] => { results := [.lit (.bool true)], args := [d1, d2, d3, d4] }
  | _ => none }
def fnExactReshareToRow : OpenClaim := { program := "ytonpikcbmgmchaa", sum := "ff02371ab149bb26a44e5e3068097d40674080da9b9972018dfea94132a6031d", func := "loop.example/g01117/laws.FnExactReshareTo", spec := "fnExactReshareTo", unfollowed := true, recurses := true, apart := false }
def FnExactReshareToSaid : Prop := fnExactReshareToRow.holds Try.pinned (OpenSpec.ofChange fnExactReshareToSpec)

/-- ITS FALSE NEIGHBOUR: 'it returns false'. Refute it at one input. -/
def fnExactReshareToWrong : ChangeSpec := { name := "fnExactReshareTo", fn := fun _ => fun
  | [d1, d2, d3, d4] => { results := [.lit (.bool false)], args := [d1, d2, d3, d4] }
  | _ => none }
def FnExactReshareToWrongFalsely : Prop := fnExactReshareToRow.holds Try.pinned (OpenSpec.ofChange fnExactReshareToWrong)

/-- 'laws.FnWeightsFor': WHATEVER THE INPUT: true; the input reads as it did. -/
def fnWeightsForSpec : ChangeSpec := { name := "fnWeightsFor", fn := fun _ => fun
  | [d1, d2] => { results := [.lit (.bool true)], args := [d1, d2] }
  | _ => none }
def fnWeightsForRow : OpenClaim := { program := "ytonpikcbmgmchaa", sum := "ff02371ab149bb26a44e5e3068097d40674080da9b9972018dfea94132a6031d", func := "loop.example/g01117/laws.FnWeightsFor", spec := "fnWeightsFor", unfollowed := true, recurses := true, apart := false }
def FnWeightsForSaid : Prop := fnWeightsForRow.holds Try.pinned (OpenSpec.ofChange fnWeightsForSpec)

/-- ITS FALSE NEIGHBOUR: 'it returns false'. Refute it at one input. -/
def fnWeightsForWrong : ChangeSpec := { name := "fnWeightsFor", fn := fun _ => fun
  | [d1, d2] => { results := [.lit (.bool false)], args := [d1, d2] }
  | _ => none }
def FnWeightsForWrongFalsely : Prop := fnWeightsForRow.holds Try.pinned (OpenSpec.ofChange fnWeightsForWrong)

/-- 'laws.FnEnrol': WHATEVER THE INPUT: true; the input reads as it did. -/
def fnEnrolSpec : ChangeSpec := { name := "fnEnrol", fn := fun _ => fun
  | [d1, d2] => { results := [.lit (.bool true)], args := [d1, d2] }
  | _ => none }
def fnEnrolRow : OpenClaim := { program := "ytonpikcbmgmchaa", sum := "ff02371ab149bb26a44e5e3068097d40674080da9b9972018dfea94132a6031d", func := "loop.example/g01117/laws.FnEnrol", spec := "fnEnrol", unfollowed := true, recurses := true, apart := false }
def FnEnrolSaid : Prop := fnEnrolRow.holds Try.pinned (OpenSpec.ofChange fnEnrolSpec)

/-- ITS FALSE NEIGHBOUR: 'it returns false'. Refute it at one input. -/
def fnEnrolWrong : ChangeSpec := { name := "fnEnrol", fn := fun _ => fun
  | [d1, d2] => { results := [.lit (.bool false)], args := [d1, d2] }
  | _ => none }
def FnEnrolWrongFalsely : Prop := fnEnrolRow.holds Try.pinned (OpenSpec.ofChange fnEnrolWrong)

/-- 'laws.FnPacked': WHATEVER THE INPUT: true; the input reads as it did. -/
def fnPackedSpec : ChangeSpec := { name := "fnPacked", fn := fun _ => fun
  | [d1, d2] => { results := [.lit (.bool true)], args := [d1, d2] }
  | _ => none }
def fnPackedRow : OpenClaim := { program := "ytonpikcbmgmchaa", sum := "ff02371ab149bb26a44e5e3068097d40674080da9b9972018dfea94132a6031d", func := "loop.example/g01117/laws.FnPacked", spec := "fnPacked", unfollowed := true, recurses := true, apart := false }
def FnPackedSaid : Prop := fnPackedRow.holds Try.pinned (OpenSpec.ofChange fnPackedSpec)

/-- ITS FALSE NEIGHBOUR: 'it returns false'. Refute it at one input. -/
def fnPackedWrong : ChangeSpec := { name := "fnPacked", fn := fun _ => fun
  | [d1, d2] => { results := [.lit (.bool false)], args := [d1, d2] }
  | _ => none }
def FnPackedWrongFalsely : Prop := fnPackedRow.holds Try.pinned (OpenSpec.ofChange fnPackedWrong)

/-- 'laws.FnCurves': WHATEVER THE INPUT: true; the input reads as it did. -/
def fnCurvesSpec : ChangeSpec := { name := "fnCurves", fn := fun _ => fun
  | [d1, d2] => { results := [.lit (.bool true)], args := [d1, d2] }
  | _ => none }
def fnCurvesRow : OpenClaim := { program := "ytonpikcbmgmchaa", sum := "ff02371ab149bb26a44e5e3068097d40674080da9b9972018dfea94132a6031d", func := "loop.example/g01117/laws.FnCurves", spec := "fnCurves", unfollowed := true, recurses := true, apart := false }
def FnCurvesSaid : Prop := fnCurvesRow.holds Try.pinned (OpenSpec.ofChange fnCurvesSpec)

/-- ITS FALSE NEIGHBOUR: 'it returns false'. Refute it at one input. -/
def fnCurvesWrong : ChangeSpec := { name := "fnCurves", fn := fun _ => fun
  | [d1, d2] => { results := [.lit (.bool false)], args := [d1, d2] }
  | _ => none }
def FnCurvesWrongFalsely : Prop := fnCurvesRow.holds Try.pinned (OpenSpec.ofChange fnCurvesWrong)

/-- 'laws.FnSecrecy': WHATEVER THE INPUT: true; the input reads as it did. -/
def fnSecrecySpec : ChangeSpec := { name := "fnSecrecy", fn := fun _ => fun
  | [d1, d2] => { results := [.lit (.bool true)], args := [d1, d2] }
  | _ => none }
def fnSecrecyRow : OpenClaim := { program := "ytonpikcbmgmchaa", sum := "ff02371ab149bb26a44e5e3068097d40674080da9b9972018dfea94132a6031d", func := "loop.example/g01117/laws.FnSecrecy", spec := "fnSecrecy", unfollowed := true, recurses := true, apart := false }
def FnSecrecySaid : Prop := fnSecrecyRow.holds Try.pinned (OpenSpec.ofChange fnSecrecySpec)

/-- ITS FALSE NEIGHBOUR: 'it returns false'. Refute it at one input. -/
def fnSecrecyWrong : ChangeSpec := { name := "fnSecrecy", fn := fun _ => fun
  | [d1, d2] => { results := [.lit (.bool false)], args := [d1, d2] }
  | _ => none }
def FnSecrecyWrongFalsely : Prop := fnSecrecyRow.holds Try.pinned (OpenSpec.ofChange fnSecrecyWrong)

/-- 'laws.FnRefresh': WHATEVER THE INPUT: true; the input reads as it did. -/
def fnRefreshSpec : ChangeSpec := { name := "fnRefresh", fn := fun _ => fun
  | [d1, d2] => { results := [.lit (.bool true)], args := [d1, d2] }
  | _ => none }
def fnRefreshRow : OpenClaim := { program := "ytonpikcbmgmchaa", sum := "ff02371ab149bb26a44e5e3068097d40674080da9b9972018dfea94132a6031d", func := "loop.example/g01117/laws.FnRefresh", spec := "fnRefresh", unfollowed := true, recurses := true, apart := false }
def FnRefreshSaid : Prop := fnRefreshRow.holds Try.pinned (OpenSpec.ofChange fnRefreshSpec)

/-- ITS FALSE NEIGHBOUR: 'it returns false'. Refute it at one input. -/
def fnRefreshWrong : ChangeSpec := { name := "fnRefresh", fn := fun _ => fun
  | [d1, d2] => { results := [.lit (.bool false)], args := [d1, d2] }
  | _ => none }
def FnRefreshWrongFalsely : Prop := fnRefreshRow.holds Try.pinned (OpenSpec.ofChange fnRefreshWrong)

/- THE SECOND FORM. 'bulk': how many values and letters a reading holds, each counted each time it is reached (what is shared counts as often as it is met; a slice's spare places count too). A statement '..UptoSaid' is the law's where the arguments, and the package variables that the reading takes, are together of bulk at most 1048576: NARROWER than '..Said'. Prove '..Said' where nothing that the law and all that it calls make is longer than what came in: it says more and counts as full. Else prove '..UptoSaid'. A law counts once. -/
mutual
def uptoBulk {H : Type} : DataW H → Nat
  | .lit (.string bytes) => bytes.length + 1
  | .lit _ => 1
  | .nil => 1
  | .ptr d => uptoBulk d + 1
  | .slice elems spare => uptoBulkAll elems + uptoBulkAll spare + 1
  | .agg parts => uptoBulkAll parts + 1
  | .iface _ d => uptoBulk d + 1
  | .map entries => uptoBulkEntries entries + 1
  | .held _ => 1
def uptoBulkAll {H : Type} : List (DataW H) → Nat
  | [] => 0
  | d :: r => uptoBulk d + uptoBulkAll r
def uptoBulkEntries {H : Type} : List (Lit × DataW H) → Nat
  | [] => 0
  | x :: r => uptoBulkEntry x + uptoBulkEntries r
def uptoBulkEntry {H : Type} : Lit × DataW H → Nat
  | (.string bytes, d) => bytes.length + uptoBulk d + 1
  | (_, d) => uptoBulk d + 1
 end
def uptoSmall : (H : Type) → List (DataW H) → Bool := fun _ ds => decide (uptoBulkAll ds ≤ 1048576)
def OpenSpec.upto (s : _root_.Go.ChangeSpec) : _root_.Go.OpenSpec := { _root_.Go.OpenSpec.ofChange s with cond := some uptoSmall }

/-- 'laws.FnExactUnpackSecrets', WHERE WHAT IT READS IS OF BULK AT MOST 1048576: true; the input reads as it did. -/
def fnExactUnpackSecretsUptoRow : OpenClaim := { program := "ytonpikcbmgmchaa", sum := "ff02371ab149bb26a44e5e3068097d40674080da9b9972018dfea94132a6031d", func := "loop.example/g01117/laws.FnExactUnpackSecrets", spec := "fnExactUnpackSecrets", unfollowed := true, recurses := true, apart := false, narrowed := true }
def FnExactUnpackSecretsUptoSaid : Prop := fnExactUnpackSecretsUptoRow.holds Try.pinned (OpenSpec.upto fnExactUnpackSecretsSpec)

/-- 'laws.FnExactCurveThrough', WHERE WHAT IT READS IS OF BULK AT MOST 1048576: true; the input reads as it did. -/
def fnExactCurveThroughUptoRow : OpenClaim := { program := "ytonpikcbmgmchaa", sum := "ff02371ab149bb26a44e5e3068097d40674080da9b9972018dfea94132a6031d", func := "loop.example/g01117/laws.FnExactCurveThrough", spec := "fnExactCurveThrough", unfollowed := true, recurses := true, apart := false, narrowed := true }
def FnExactCurveThroughUptoSaid : Prop := fnExactCurveThroughUptoRow.holds Try.pinned (OpenSpec.upto fnExactCurveThroughSpec)

/-- 'laws.FnExactRefreshShares', WHERE WHAT IT READS IS OF BULK AT MOST 1048576: true; the input reads as it did. -/
def fnExactRefreshSharesUptoRow : OpenClaim := { program := "ytonpikcbmgmchaa", sum := "ff02371ab149bb26a44e5e3068097d40674080da9b9972018dfea94132a6031d", func := "loop.example/g01117/laws.FnExactRefreshShares", spec := "fnExactRefreshShares", unfollowed := true, recurses := true, apart := false, narrowed := true }
def FnExactRefreshSharesUptoSaid : Prop := fnExactRefreshSharesUptoRow.holds Try.pinned (OpenSpec.upto fnExactRefreshSharesSpec)

/-- 'laws.FnExactCountSecrets', WHERE WHAT IT READS IS OF BULK AT MOST 1048576: true; the input reads as it did. -/
def fnExactCountSecretsUptoRow : OpenClaim := { program := "ytonpikcbmgmchaa", sum := "ff02371ab149bb26a44e5e3068097d40674080da9b9972018dfea94132a6031d", func := "loop.example/g01117/laws.FnExactCountSecrets", spec := "fnExactCountSecrets", unfollowed := true, recurses := true, apart := false, narrowed := true }
def FnExactCountSecretsUptoSaid : Prop := fnExactCountSecretsUptoRow.holds Try.pinned (OpenSpec.upto fnExactCountSecretsSpec)

/-- 'laws.FnExactEnrollParts', WHERE WHAT IT READS IS OF BULK AT MOST 1048576: true; the input reads as it did. -/
def fnExactEnrollPartsUptoRow : OpenClaim := { program := "ytonpikcbmgmchaa", sum := "ff02371ab149bb26a44e5e3068097d40674080da9b9972018dfea94132a6031d", func := "loop.example/g01117/laws.FnExactEnrollParts", spec := "fnExactEnrollParts", unfollowed := true, recurses := true, apart := false, narrowed := true }
def FnExactEnrollPartsUptoSaid : Prop := fnExactEnrollPartsUptoRow.holds Try.pinned (OpenSpec.upto fnExactEnrollPartsSpec)

/-- 'laws.FnExactReshareTo', WHERE WHAT IT READS IS OF BULK AT MOST 1048576: true; the input reads as it did. -/
def fnExactReshareToUptoRow : OpenClaim := { program := "ytonpikcbmgmchaa", sum := "ff02371ab149bb26a44e5e3068097d40674080da9b9972018dfea94132a6031d", func := "loop.example/g01117/laws.FnExactReshareTo", spec := "fnExactReshareTo", unfollowed := true, recurses := true, apart := false, narrowed := true }
def FnExactReshareToUptoSaid : Prop := fnExactReshareToUptoRow.holds Try.pinned (OpenSpec.upto fnExactReshareToSpec)

/-- 'laws.FnWeightsFor', WHERE WHAT IT READS IS OF BULK AT MOST 1048576: true; the input reads as it did. -/
def fnWeightsForUptoRow : OpenClaim := { program := "ytonpikcbmgmchaa", sum := "ff02371ab149bb26a44e5e3068097d40674080da9b9972018dfea94132a6031d", func := "loop.example/g01117/laws.FnWeightsFor", spec := "fnWeightsFor", unfollowed := true, recurses := true, apart := false, narrowed := true }
def FnWeightsForUptoSaid : Prop := fnWeightsForUptoRow.holds Try.pinned (OpenSpec.upto fnWeightsForSpec)

/-- 'laws.FnEnrol', WHERE WHAT IT READS IS OF BULK AT MOST 1048576: true; the input reads as it did. -/
def fnEnrolUptoRow : OpenClaim := { program := "ytonpikcbmgmchaa", sum := "ff02371ab149bb26a44e5e3068097d40674080da9b9972018dfea94132a6031d", func := "loop.example/g01117/laws.FnEnrol", spec := "fnEnrol", unfollowed := true, recurses := true, apart := false, narrowed := true }
def FnEnrolUptoSaid : Prop := fnEnrolUptoRow.holds Try.pinned (OpenSpec.upto fnEnrolSpec)

/-- 'laws.FnPacked', WHERE WHAT IT READS IS OF BULK AT MOST 1048576: true; the input reads as it did. -/
def fnPackedUptoRow : OpenClaim := { program := "ytonpikcbmgmchaa", sum := "ff02371ab149bb26a44e5e3068097d40674080da9b9972018dfea94132a6031d", func := "loop.example/g01117/laws.FnPacked", spec := "fnPacked", unfollowed := true, recurses := true, apart := false, narrowed := true }
def FnPackedUptoSaid : Prop := fnPackedUptoRow.holds Try.pinned (OpenSpec.upto fnPackedSpec)

/-- 'laws.FnCurves', WHERE WHAT IT READS IS OF BULK AT MOST 1048576: true; the input reads as it did. -/
def fnCurvesUptoRow : OpenClaim := { program := "ytonpikcbmgmchaa", sum := "ff02371ab149bb26a44e5e3068097d40674080da9b9972018dfea94132a6031d", func := "loop.example/g01117/laws.FnCurves", spec := "fnCurves", unfollowed := true, recurses := true, apart := false, narrowed := true }
def FnCurvesUptoSaid : Prop := fnCurvesUptoRow.holds Try.pinned (OpenSpec.upto fnCurvesSpec)

/-- 'laws.FnSecrecy', WHERE WHAT IT READS IS OF BULK AT MOST 1048576: true; the input reads as it did. -/
def fnSecrecyUptoRow : OpenClaim := { program := "ytonpikcbmgmchaa", sum := "ff02371ab149bb26a44e5e3068097d40674080da9b9972018dfea94132a6031d", func := "loop.example/g01117/laws.FnSecrecy", spec := "fnSecrecy", unfollowed := true, recurses := true, apart := false, narrowed := true }
def FnSecrecyUptoSaid : Prop := fnSecrecyUptoRow.holds Try.pinned (OpenSpec.upto fnSecrecySpec)

/-- 'laws.FnRefresh', WHERE WHAT IT READS IS OF BULK AT MOST 1048576: true; the input reads as it did. -/
def fnRefreshUptoRow : OpenClaim := { program := "ytonpikcbmgmchaa", sum := "ff02371ab149bb26a44e5e3068097d40674080da9b9972018dfea94132a6031d", func := "loop.example/g01117/laws.FnRefresh", spec := "fnRefresh", unfollowed := true, recurses := true, apart := false, narrowed := true }
def FnRefreshUptoSaid : Prop := fnRefreshUptoRow.holds Try.pinned (OpenSpec.upto fnRefreshSpec)

end Rows
end Go.Proofs.Ytonpikcbmgmchaa
