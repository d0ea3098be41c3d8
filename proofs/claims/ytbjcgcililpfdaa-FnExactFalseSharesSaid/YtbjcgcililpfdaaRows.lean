/-
  NARROWER THAN 'FOR EVERY INPUT', by the rows' own cells (each row's printed sentence says how): FnExactGateOpens: loops.
  DERIVED. THE GIVEN ROWS OF THIS SEAT. 9 by the template 'for every input the law returns true; each argument reads behind the call as it read before'; 0 by the template 'total and deterministic' (their statements: YtbjcgcililpfdaaTotals.lean).
  GIVEN WITH THE SEED: the statements are not yours to turn. If you find one false, say at which input.
  Laid BY PROGRAM, IN A SANDBOX (cutbox-rows.mjs): the forced cells as the released guide's own fill.sh prints them over the translation 1fbc0bb8d38d3f8e… (all of the seat's roots in one cut). By AI agents, Wed Nov 11 2026. No macro, syntax, notation, axiom, sorry.
-/
import Derived.Test.YtbjcgcililpfdaaChecked
import GoSem.Claim
import GoSem.ClaimJoined
import GoSem.ClaimMapViews
import Derived.JoinedTies
import Derived.KernelRfl
namespace Go.Proofs.Ytbjcgcililpfdaa
/- THE CELL 'sum', in the pinned program and in every row, IS THE sha256 OF THE DUMP (.gsa) THAT YtbjcgcililpfdaaProg.lean LOADS. Nothing in Lean hashes anything: it is a label: what it is worth is what the hold of that sum in a sandbox is worth. -/
noncomputable def Try.pinned : Pinned := { name := "ytbjcgcililpfdaa", sum := "1fbc0bb8d38d3f8eeb7daf8e89a5991a2c053174de38f3515304f78aaea59090", checked := Try.checked }
namespace Rows
def none {H : Type} : Left H := { results := [], args := [] }

/-- 'laws.FnExactGateOpens': WHATEVER THE INPUT: true; the input reads as it did. -/
def fnExactGateOpensSpec : ChangeSpec := { name := "fnExactGateOpens", fn := fun _ => fun
  | [d1, d2, d3] => { results := [.lit (.bool true)], args := [d1, d2, d3] }
  | _ => none }
def fnExactGateOpensRow : OpenClaim := { program := "ytbjcgcililpfdaa", sum := "1fbc0bb8d38d3f8eeb7daf8e89a5991a2c053174de38f3515304f78aaea59090", func := "loop.example/g01117/laws.FnExactGateOpens", spec := "fnExactGateOpens", unfollowed := true, recurses := true, loops := true, apart := false }
def FnExactGateOpensSaid : Prop := fnExactGateOpensRow.holds Try.pinned (OpenSpec.ofChange fnExactGateOpensSpec)

/-- ITS FALSE NEIGHBOUR: 'it returns false'. Refute it at one input. -/
def fnExactGateOpensWrong : ChangeSpec := { name := "fnExactGateOpens", fn := fun _ => fun
  | [d1, d2, d3] => { results := [.lit (.bool false)], args := [d1, d2, d3] }
  | _ => none }
def FnExactGateOpensWrongFalsely : Prop := fnExactGateOpensRow.holds Try.pinned (OpenSpec.ofChange fnExactGateOpensWrong)

/-- 'laws.FnExactMayOpen': WHATEVER THE INPUT: true; the input reads as it did. -/
def fnExactMayOpenSpec : ChangeSpec := { name := "fnExactMayOpen", fn := fun _ => fun
  | [d1, d2] => { results := [.lit (.bool true)], args := [d1, d2] }
  | _ => none }
def fnExactMayOpenRow : OpenClaim := { program := "ytbjcgcililpfdaa", sum := "1fbc0bb8d38d3f8eeb7daf8e89a5991a2c053174de38f3515304f78aaea59090", func := "loop.example/g01117/laws.FnExactMayOpen", spec := "fnExactMayOpen", unfollowed := true, recurses := true, apart := false }
def FnExactMayOpenSaid : Prop := fnExactMayOpenRow.holds Try.pinned (OpenSpec.ofChange fnExactMayOpenSpec)

/-- ITS FALSE NEIGHBOUR: 'it returns false'. Refute it at one input. -/
def fnExactMayOpenWrong : ChangeSpec := { name := "fnExactMayOpen", fn := fun _ => fun
  | [d1, d2] => { results := [.lit (.bool false)], args := [d1, d2] }
  | _ => none }
def FnExactMayOpenWrongFalsely : Prop := fnExactMayOpenRow.holds Try.pinned (OpenSpec.ofChange fnExactMayOpenWrong)

/-- 'laws.FnExactSwingsOf': WHATEVER THE INPUT: true; the input reads as it did. -/
def fnExactSwingsOfSpec : ChangeSpec := { name := "fnExactSwingsOf", fn := fun _ => fun
  | [d] => { results := [.lit (.bool true)], args := [d] }
  | _ => none }
def fnExactSwingsOfRow : OpenClaim := { program := "ytbjcgcililpfdaa", sum := "1fbc0bb8d38d3f8eeb7daf8e89a5991a2c053174de38f3515304f78aaea59090", func := "loop.example/g01117/laws.FnExactSwingsOf", spec := "fnExactSwingsOf", unfollowed := true, recurses := true, apart := false }
def FnExactSwingsOfSaid : Prop := fnExactSwingsOfRow.holds Try.pinned (OpenSpec.ofChange fnExactSwingsOfSpec)

/-- ITS FALSE NEIGHBOUR: 'it returns false'. Refute it at one input. -/
def fnExactSwingsOfWrong : ChangeSpec := { name := "fnExactSwingsOf", fn := fun _ => fun
  | [d] => { results := [.lit (.bool false)], args := [d] }
  | _ => none }
def FnExactSwingsOfWrongFalsely : Prop := fnExactSwingsOfRow.holds Try.pinned (OpenSpec.ofChange fnExactSwingsOfWrong)

/-- 'laws.FnExactIsModule': WHATEVER THE INPUT: true; the input reads as it did. -/
def fnExactIsModuleSpec : ChangeSpec := { name := "fnExactIsModule", fn := fun _ => fun
  | [d1, d2] => { results := [.lit (.bool true)], args := [d1, d2] }
  | _ => none }
def fnExactIsModuleRow : OpenClaim := { program := "ytbjcgcililpfdaa", sum := "1fbc0bb8d38d3f8eeb7daf8e89a5991a2c053174de38f3515304f78aaea59090", func := "loop.example/g01117/laws.FnExactIsModule", spec := "fnExactIsModule", unfollowed := true, recurses := true, apart := false }
def FnExactIsModuleSaid : Prop := fnExactIsModuleRow.holds Try.pinned (OpenSpec.ofChange fnExactIsModuleSpec)

/-- ITS FALSE NEIGHBOUR: 'it returns false'. Refute it at one input. -/
def fnExactIsModuleWrong : ChangeSpec := { name := "fnExactIsModule", fn := fun _ => fun
  | [d1, d2] => { results := [.lit (.bool false)], args := [d1, d2] }
  | _ => none }
def FnExactIsModuleWrongFalsely : Prop := fnExactIsModuleRow.holds Try.pinned (OpenSpec.ofChange fnExactIsModuleWrong)

/-- 'laws.FnExactCountBySize': WHATEVER THE INPUT: true; the input reads as it did. -/
def fnExactCountBySizeSpec : ChangeSpec := { name := "fnExactCountBySize", fn := fun _ => fun
  | [d] => { results := [.lit (.bool true)], args := [d] }
  | _ => none }
def fnExactCountBySizeRow : OpenClaim := { program := "ytbjcgcililpfdaa", sum := "1fbc0bb8d38d3f8eeb7daf8e89a5991a2c053174de38f3515304f78aaea59090", func := "loop.example/g01117/laws.FnExactCountBySize", spec := "fnExactCountBySize", unfollowed := true, recurses := true, apart := false }
def FnExactCountBySizeSaid : Prop := fnExactCountBySizeRow.holds Try.pinned (OpenSpec.ofChange fnExactCountBySizeSpec)

/-- ITS FALSE NEIGHBOUR: 'it returns false'. Refute it at one input. -/
def fnExactCountBySizeWrong : ChangeSpec := { name := "fnExactCountBySize", fn := fun _ => fun
  | [d] => { results := [.lit (.bool false)], args := [d] }
  | _ => none }
def FnExactCountBySizeWrongFalsely : Prop := fnExactCountBySizeRow.holds Try.pinned (OpenSpec.ofChange fnExactCountBySizeWrong)

/-- 'laws.FnExactFindWeights': WHATEVER THE INPUT: true; the input reads as it did. -/
def fnExactFindWeightsSpec : ChangeSpec := { name := "fnExactFindWeights", fn := fun _ => fun
  | [d] => { results := [.lit (.bool true)], args := [d] }
  | _ => none }
def fnExactFindWeightsRow : OpenClaim := { program := "ytbjcgcililpfdaa", sum := "1fbc0bb8d38d3f8eeb7daf8e89a5991a2c053174de38f3515304f78aaea59090", func := "loop.example/g01117/laws.FnExactFindWeights", spec := "fnExactFindWeights", unfollowed := true, recurses := true, apart := false }
def FnExactFindWeightsSaid : Prop := fnExactFindWeightsRow.holds Try.pinned (OpenSpec.ofChange fnExactFindWeightsSpec)

/-- ITS FALSE NEIGHBOUR: 'it returns false'. Refute it at one input. -/
def fnExactFindWeightsWrong : ChangeSpec := { name := "fnExactFindWeights", fn := fun _ => fun
  | [d] => { results := [.lit (.bool false)], args := [d] }
  | _ => none }
def FnExactFindWeightsWrongFalsely : Prop := fnExactFindWeightsRow.holds Try.pinned (OpenSpec.ofChange fnExactFindWeightsWrong)

/-- 'laws.FnExactAlikeHolders': WHATEVER THE INPUT: true; the input reads as it did. -/
def fnExactAlikeHoldersSpec : ChangeSpec := { name := "fnExactAlikeHolders", fn := fun _ => fun
  | [d] => { results := [.lit (.bool true)], args := [d] }
  | _ => none }
def fnExactAlikeHoldersRow : OpenClaim := { program := "ytbjcgcililpfdaa", sum := "1fbc0bb8d38d3f8eeb7daf8e89a5991a2c053174de38f3515304f78aaea59090", func := "loop.example/g01117/laws.FnExactAlikeHolders", spec := "fnExactAlikeHolders", unfollowed := true, recurses := true, apart := false }
def FnExactAlikeHoldersSaid : Prop := fnExactAlikeHoldersRow.holds Try.pinned (OpenSpec.ofChange fnExactAlikeHoldersSpec)

/-- ITS FALSE NEIGHBOUR: 'it returns false'. Refute it at one input. -/
def fnExactAlikeHoldersWrong : ChangeSpec := { name := "fnExactAlikeHolders", fn := fun _ => fun
  | [d] => { results := [.lit (.bool false)], args := [d] }
  | _ => none }
def FnExactAlikeHoldersWrongFalsely : Prop := fnExactAlikeHoldersRow.holds Try.pinned (OpenSpec.ofChange fnExactAlikeHoldersWrong)

/-- 'laws.FnExactFalseShares': WHATEVER THE INPUT: true; the input reads as it did. -/
def fnExactFalseSharesSpec : ChangeSpec := { name := "fnExactFalseShares", fn := fun _ => fun
  | [d1, d2, d3, d4] => { results := [.lit (.bool true)], args := [d1, d2, d3, d4] }
  | _ => none }
def fnExactFalseSharesRow : OpenClaim := { program := "ytbjcgcililpfdaa", sum := "1fbc0bb8d38d3f8eeb7daf8e89a5991a2c053174de38f3515304f78aaea59090", func := "loop.example/g01117/laws.FnExactFalseShares", spec := "fnExactFalseShares", unfollowed := true, recurses := true, apart := false }
def FnExactFalseSharesSaid : Prop := fnExactFalseSharesRow.holds Try.pinned (OpenSpec.ofChange fnExactFalseSharesSpec)

/-- ITS FALSE NEIGHBOUR: 'it returns false'. Refute it at one input. -/
def fnExactFalseSharesWrong : ChangeSpec := { name := "fnExactFalseShares", fn := fun _ => fun
  | [d1, d2, d3, d4] => { results := [.lit (.bool false)], args := [d1, d2, d3, d4] }
  | _ => none }
def FnExactFalseSharesWrongFalsely : Prop := fnExactFalseSharesRow.holds Try.pinned (OpenSpec.ofChange fnExactFalseSharesWrong)

/-- 'laws.FnExactNearCurves': WHATEVER THE INPUT: true; the input reads as it did. -/
def fnExactNearCurvesSpec : ChangeSpec := { name := "fnExactNearCurves", fn := fun _ => fun
  | [d1, d2, d3, d4] => { results := [.lit (.bool true)], args := [d1, d2, d3, d4] }
  | _ => none }
def fnExactNearCurvesRow : OpenClaim := { program := "ytbjcgcililpfdaa", sum := "1fbc0bb8d38d3f8eeb7daf8e89a5991a2c053174de38f3515304f78aaea59090", func := "loop.example/g01117/laws.FnExactNearCurves", spec := "fnExactNearCurves", unfollowed := true, recurses := true, apart := false }
def FnExactNearCurvesSaid : Prop := fnExactNearCurvesRow.holds Try.pinned (OpenSpec.ofChange fnExactNearCurvesSpec)

/-- ITS FALSE NEIGHBOUR: 'it returns false'. Refute it at one input. -/
def fnExactNearCurvesWrong : ChangeSpec := { name := "fnExactNearCurves", fn := fun _ => fun
  | [d1, d2, d3, d4] => { results := [.lit (.bool false)], args := [d1, d2, d3, d4] }
  | _ => none }
def FnExactNearCurvesWrongFalsely : Prop := fnExactNearCurvesRow.holds Try.pinned (OpenSpec.ofChange fnExactNearCurvesWrong)

/- THE SECOND FORM. 'bulk': how many values and letters a reading holds, each counted each time it is reached (what is shared counts as often as it is met; a slice's spare places count too). A statement '..UptoSaid' is the law's where the arguments, and the package variables that the reading takes, are together of bulk at most 1048576: NARROWER than '..Said'. Prove '..Said' where nothing that the law and all that it calls make is longer than what came in: it says more and counts as full. Else prove '..UptoSaid'. A law counts once. -/
mutual
def uptoBulk {H : Type} : DataW H → Nat
  | .lit (.string bytes) => bytes.length + 1
  | .lit _ => 1
  | .nil => 1
  | .ptr d => uptoBulk d + 1
  | .slice elems spare => uptoBulkAll elems + uptoBulkAll spare + 1
  | .agg parts => uptoBulkAll parts + 1
  | .iface _ d => uptoBulk d + 1
  | .map entries => uptoBulkEntries entries + 1
  | .held _ => 1
def uptoBulkAll {H : Type} : List (DataW H) → Nat
  | [] => 0
  | d :: r => uptoBulk d + uptoBulkAll r
def uptoBulkEntries {H : Type} : List (Lit × DataW H) → Nat
  | [] => 0
  | x :: r => uptoBulkEntry x + uptoBulkEntries r
def uptoBulkEntry {H : Type} : Lit × DataW H → Nat
  | (.string bytes, d) => bytes.length + uptoBulk d + 1
  | (_, d) => uptoBulk d + 1
 end
def uptoSmall : (H : Type) → List (DataW H) → Bool := fun _ ds => decide (uptoBulkAll ds ≤ 1048576)
def OpenSpec.upto (s : _root_.Go.ChangeSpec) : _root_.Go.OpenSpec := { _root_.Go.OpenSpec.ofChange s with cond := some uptoSmall }

/-- 'laws.FnExactGateOpens', WHERE WHAT IT READS IS OF BULK AT MOST 1048576: true; the input reads as it did. -/
def fnExactGateOpensUptoRow : OpenClaim := { program := "ytbjcgcililpfdaa", sum := "1fbc0bb8d38d3f8eeb7daf8e89a5991a2c053174de38f3515304f78aaea59090", func := "loop.example/g01117/laws.FnExactGateOpens", spec := "fnExactGateOpens", unfollowed := true, recurses := true, loops := true, apart := false, narrowed := true }
def FnExactGateOpensUptoSaid : Prop := fnExactGateOpensUptoRow.holds Try.pinned (OpenSpec.upto fnExactGateOpensSpec)

/-- 'laws.FnExactMayOpen', WHERE WHAT IT READS IS OF BULK AT MOST 1048576: true; the input reads as it did. -/
def fnExactMayOpenUptoRow : OpenClaim := { program := "ytbjcgcililpfdaa", sum := "1fbc0bb8d38d3f8eeb7daf8e89a5991a2c053174de38f3515304f78aaea59090", func := "loop.example/g01117/laws.FnExactMayOpen", spec := "fnExactMayOpen", unfollowed := true, recurses := true, apart := false, narrowed := true }
def FnExactMayOpenUptoSaid : Prop := fnExactMayOpenUptoRow.holds Try.pinned (OpenSpec.upto fnExactMayOpenSpec)

/-- 'laws.FnExactSwingsOf', WHERE WHAT IT READS IS OF BULK AT MOST 1048576: true; the input reads as it did. -/
def fnExactSwingsOfUptoRow : OpenClaim := { program := "ytbjcgcililpfdaa", sum := "1fbc0bb8d38d3f8eeb7daf8e89a5991a2c053174de38f3515304f78aaea59090", func := "loop.example/g01117/laws.FnExactSwingsOf", spec := "fnExactSwingsOf", unfollowed := true, recurses := true, apart := false, narrowed := true }
def FnExactSwingsOfUptoSaid : Prop := fnExactSwingsOfUptoRow.holds Try.pinned (OpenSpec.upto fnExactSwingsOfSpec)

/-- 'laws.FnExactIsModule', WHERE WHAT IT READS IS OF BULK AT MOST 1048576: true; the input reads as it did. -/
def fnExactIsModuleUptoRow : OpenClaim := { program := "ytbjcgcililpfdaa", sum := "1fbc0bb8d38d3f8eeb7daf8e89a5991a2c053174de38f3515304f78aaea59090", func := "loop.example/g01117/laws.FnExactIsModule", spec := "fnExactIsModule", unfollowed := true, recurses := true, apart := false, narrowed := true }
def FnExactIsModuleUptoSaid : Prop := fnExactIsModuleUptoRow.holds Try.pinned (OpenSpec.upto fnExactIsModuleSpec)

/-- 'laws.FnExactCountBySize', WHERE WHAT IT READS IS OF BULK AT MOST 1048576: true; the input reads as it did. -/
def fnExactCountBySizeUptoRow : OpenClaim := { program := "ytbjcgcililpfdaa", sum := "1fbc0bb8d38d3f8eeb7daf8e89a5991a2c053174de38f3515304f78aaea59090", func := "loop.example/g01117/laws.FnExactCountBySize", spec := "fnExactCountBySize", unfollowed := true, recurses := true, apart := false, narrowed := true }
def FnExactCountBySizeUptoSaid : Prop := fnExactCountBySizeUptoRow.holds Try.pinned (OpenSpec.upto fnExactCountBySizeSpec)

/-- 'laws.FnExactFindWeights', WHERE WHAT IT READS IS OF BULK AT MOST 1048576: true; the input reads as it did. -/
def fnExactFindWeightsUptoRow : OpenClaim := { program := "ytbjcgcililpfdaa", sum := "1fbc0bb8d38d3f8eeb7daf8e89a5991a2c053174de38f3515304f78aaea59090", func := "loop.example/g01117/laws.FnExactFindWeights", spec := "fnExactFindWeights", unfollowed := true, recurses := true, apart := false, narrowed := true }
def FnExactFindWeightsUptoSaid : Prop := fnExactFindWeightsUptoRow.holds Try.pinned (OpenSpec.upto fnExactFindWeightsSpec)

/-- 'laws.FnExactAlikeHolders', WHERE WHAT IT READS IS OF BULK AT MOST 1048576: true; the input reads as it did. -/
def fnExactAlikeHoldersUptoRow : OpenClaim := { program := "ytbjcgcililpfdaa", sum := "1fbc0bb8d38d3f8eeb7daf8e89a5991a2c053174de38f3515304f78aaea59090", func := "loop.example/g01117/laws.FnExactAlikeHolders", spec := "fnExactAlikeHolders", unfollowed := true, recurses := true, apart := false, narrowed := true }
def FnExactAlikeHoldersUptoSaid : Prop := fnExactAlikeHoldersUptoRow.holds Try.pinned (OpenSpec.upto fnExactAlikeHoldersSpec)

/-- 'laws.FnExactFalseShares', WHERE WHAT IT READS IS OF BULK AT MOST 1048576: true; the input reads as it did. -/
def fnExactFalseSharesUptoRow : OpenClaim := { program := "ytbjcgcililpfdaa", sum := "1fbc0bb8d38d3f8eeb7daf8e89a5991a2c053174de38f3515304f78aaea59090", func := "loop.example/g01117/laws.FnExactFalseShares", spec := "fnExactFalseShares", unfollowed := true, recurses := true, apart := false, narrowed := true }
def FnExactFalseSharesUptoSaid : Prop := fnExactFalseSharesUptoRow.holds Try.pinned (OpenSpec.upto fnExactFalseSharesSpec)

/-- 'laws.FnExactNearCurves', WHERE WHAT IT READS IS OF BULK AT MOST 1048576: true; the input reads as it did. -/
def fnExactNearCurvesUptoRow : OpenClaim := { program := "ytbjcgcililpfdaa", sum := "1fbc0bb8d38d3f8eeb7daf8e89a5991a2c053174de38f3515304f78aaea59090", func := "loop.example/g01117/laws.FnExactNearCurves", spec := "fnExactNearCurves", unfollowed := true, recurses := true, apart := false, narrowed := true }
def FnExactNearCurvesUptoSaid : Prop := fnExactNearCurvesUptoRow.holds Try.pinned (OpenSpec.upto fnExactNearCurvesSpec)

end Rows
end Go.Proofs.Ytbjcgcililpfdaa
