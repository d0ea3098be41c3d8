/-
  NARROWER THAN 'FOR EVERY INPUT', by the rows' own cells (each row's printed sentence says how): FnExactSchemeOfGate: loops.
  DERIVED. THE GIVEN ROWS OF THIS SEAT. 10 by the template 'for every input the law returns true; each argument reads behind the call as it read before'; 0 by the template 'total and deterministic' (their statements: YticobjbjejpomaaTotals.lean).
  GIVEN WITH THE SEED: the statements are not yours to turn. If you find one false, say at which input.
  Laid BY PROGRAM, IN A SANDBOX (cutbox-rows.mjs): the forced cells as the released guide's own fill.sh prints them over the translation 41b503d7893fd96c… (all of the seat's roots in one cut). By AI agents, Wed Nov 11 2026. No macro, syntax, notation, axiom, sorry.
-/
import Derived.Test.YticobjbjejpomaaChecked
import GoSem.Claim
import GoSem.ClaimJoined
import GoSem.ClaimMapViews
import Derived.JoinedTies
import Derived.KernelRfl
namespace Go.Proofs.Yticobjbjejpomaa
/- THE CELL 'sum', in the pinned program and in every row, IS THE sha256 OF THE DUMP (.gsa) THAT YticobjbjejpomaaProg.lean LOADS. Nothing in Lean hashes anything: it is a label: what it is worth is what the hold of that sum in a sandbox is worth. -/
noncomputable def Try.pinned : Pinned := { name := "yticobjbjejpomaa", sum := "41b503d7893fd96c6628f97456906b1af779fac41529dceca60900c68768e3da", checked := Try.checked }
namespace Rows
def none {H : Type} : Left H := { results := [], args := [] }

/-- 'laws.FnExactBothScheme': WHATEVER THE INPUT: true; the input reads as it did. -/
def fnExactBothSchemeSpec : ChangeSpec := { name := "fnExactBothScheme", fn := fun _ => fun
  | [d1, d2] => { results := [.lit (.bool true)], args := [d1, d2] }
  | _ => none }
def fnExactBothSchemeRow : OpenClaim := { program := "yticobjbjejpomaa", sum := "41b503d7893fd96c6628f97456906b1af779fac41529dceca60900c68768e3da", func := "loop.example/g01117/laws.FnExactBothScheme", spec := "fnExactBothScheme", unfollowed := true, recurses := true, apart := false }
def FnExactBothSchemeSaid : Prop := fnExactBothSchemeRow.holds Try.pinned (OpenSpec.ofChange fnExactBothSchemeSpec)

/-- ITS FALSE NEIGHBOUR: 'it returns false'. Refute it at one input. -/
def fnExactBothSchemeWrong : ChangeSpec := { name := "fnExactBothScheme", fn := fun _ => fun
  | [d1, d2] => { results := [.lit (.bool false)], args := [d1, d2] }
  | _ => none }
def FnExactBothSchemeWrongFalsely : Prop := fnExactBothSchemeRow.holds Try.pinned (OpenSpec.ofChange fnExactBothSchemeWrong)

/-- 'laws.FnExactIsConsistent': WHATEVER THE INPUT: true; the input reads as it did. -/
def fnExactIsConsistentSpec : ChangeSpec := { name := "fnExactIsConsistent", fn := fun _ => fun
  | [d1, d2, d3] => { results := [.lit (.bool true)], args := [d1, d2, d3] }
  | _ => none }
def fnExactIsConsistentRow : OpenClaim := { program := "yticobjbjejpomaa", sum := "41b503d7893fd96c6628f97456906b1af779fac41529dceca60900c68768e3da", func := "loop.example/g01117/laws.FnExactIsConsistent", spec := "fnExactIsConsistent", unfollowed := true, recurses := true, apart := false }
def FnExactIsConsistentSaid : Prop := fnExactIsConsistentRow.holds Try.pinned (OpenSpec.ofChange fnExactIsConsistentSpec)

/-- ITS FALSE NEIGHBOUR: 'it returns false'. Refute it at one input. -/
def fnExactIsConsistentWrong : ChangeSpec := { name := "fnExactIsConsistent", fn := fun _ => fun
  | [d1, d2, d3] => { results := [.lit (.bool false)], args := [d1, d2, d3] }
  | _ => none }
def FnExactIsConsistentWrongFalsely : Prop := fnExactIsConsistentRow.holds Try.pinned (OpenSpec.ofChange fnExactIsConsistentWrong)

/-- 'laws.FnExactSchemeOpens': WHATEVER THE INPUT: true; the input reads as it did. -/
def fnExactSchemeOpensSpec : ChangeSpec := { name := "fnExactSchemeOpens", fn := fun _ => fun
  | [d1, d2] => { results := [.lit (.bool true)], args := [d1, d2] }
  | _ => none }
def fnExactSchemeOpensRow : OpenClaim := { program := "yticobjbjejpomaa", sum := "41b503d7893fd96c6628f97456906b1af779fac41529dceca60900c68768e3da", func := "loop.example/g01117/laws.FnExactSchemeOpens", spec := "fnExactSchemeOpens", unfollowed := true, recurses := true, apart := false }
def FnExactSchemeOpensSaid : Prop := fnExactSchemeOpensRow.holds Try.pinned (OpenSpec.ofChange fnExactSchemeOpensSpec)

/-- ITS FALSE NEIGHBOUR: 'it returns false'. Refute it at one input. -/
def fnExactSchemeOpensWrong : ChangeSpec := { name := "fnExactSchemeOpens", fn := fun _ => fun
  | [d1, d2] => { results := [.lit (.bool false)], args := [d1, d2] }
  | _ => none }
def FnExactSchemeOpensWrongFalsely : Prop := fnExactSchemeOpensRow.holds Try.pinned (OpenSpec.ofChange fnExactSchemeOpensWrong)

/-- 'laws.FnExactOpeningElements': WHATEVER THE INPUT: true; the input reads as it did. -/
def fnExactOpeningElementsSpec : ChangeSpec := { name := "fnExactOpeningElements", fn := fun _ => fun
  | [d1, d2] => { results := [.lit (.bool true)], args := [d1, d2] }
  | _ => none }
def fnExactOpeningElementsRow : OpenClaim := { program := "yticobjbjejpomaa", sum := "41b503d7893fd96c6628f97456906b1af779fac41529dceca60900c68768e3da", func := "loop.example/g01117/laws.FnExactOpeningElements", spec := "fnExactOpeningElements", unfollowed := true, recurses := true, apart := false }
def FnExactOpeningElementsSaid : Prop := fnExactOpeningElementsRow.holds Try.pinned (OpenSpec.ofChange fnExactOpeningElementsSpec)

/-- ITS FALSE NEIGHBOUR: 'it returns false'. Refute it at one input. -/
def fnExactOpeningElementsWrong : ChangeSpec := { name := "fnExactOpeningElements", fn := fun _ => fun
  | [d1, d2] => { results := [.lit (.bool false)], args := [d1, d2] }
  | _ => none }
def FnExactOpeningElementsWrongFalsely : Prop := fnExactOpeningElementsRow.holds Try.pinned (OpenSpec.ofChange fnExactOpeningElementsWrong)

/-- 'laws.FnExactCompletion': WHATEVER THE INPUT: true; the input reads as it did. -/
def fnExactCompletionSpec : ChangeSpec := { name := "fnExactCompletion", fn := fun _ => fun
  | [d1, d2, d3, d4] => { results := [.lit (.bool true)], args := [d1, d2, d3, d4] }
  | _ => none }
def fnExactCompletionRow : OpenClaim := { program := "yticobjbjejpomaa", sum := "41b503d7893fd96c6628f97456906b1af779fac41529dceca60900c68768e3da", func := "loop.example/g01117/laws.FnExactCompletion", spec := "fnExactCompletion", unfollowed := true, recurses := true, apart := false }
def FnExactCompletionSaid : Prop := fnExactCompletionRow.holds Try.pinned (OpenSpec.ofChange fnExactCompletionSpec)

/-- ITS FALSE NEIGHBOUR: 'it returns false'. Refute it at one input. -/
def fnExactCompletionWrong : ChangeSpec := { name := "fnExactCompletion", fn := fun _ => fun
  | [d1, d2, d3, d4] => { results := [.lit (.bool false)], args := [d1, d2, d3, d4] }
  | _ => none }
def FnExactCompletionWrongFalsely : Prop := fnExactCompletionRow.holds Try.pinned (OpenSpec.ofChange fnExactCompletionWrong)

/-- 'laws.FnExactRebuild': WHATEVER THE INPUT: true; the input reads as it did. -/
def fnExactRebuildSpec : ChangeSpec := { name := "fnExactRebuild", fn := fun _ => fun
  | [d1, d2, d3] => { results := [.lit (.bool true)], args := [d1, d2, d3] }
  | _ => none }
def fnExactRebuildRow : OpenClaim := { program := "yticobjbjejpomaa", sum := "41b503d7893fd96c6628f97456906b1af779fac41529dceca60900c68768e3da", func := "loop.example/g01117/laws.FnExactRebuild", spec := "fnExactRebuild", unfollowed := true, recurses := true, apart := false }
def FnExactRebuildSaid : Prop := fnExactRebuildRow.holds Try.pinned (OpenSpec.ofChange fnExactRebuildSpec)

/-- ITS FALSE NEIGHBOUR: 'it returns false'. Refute it at one input. -/
def fnExactRebuildWrong : ChangeSpec := { name := "fnExactRebuild", fn := fun _ => fun
  | [d1, d2, d3] => { results := [.lit (.bool false)], args := [d1, d2, d3] }
  | _ => none }
def FnExactRebuildWrongFalsely : Prop := fnExactRebuildRow.holds Try.pinned (OpenSpec.ofChange fnExactRebuildWrong)

/-- 'laws.FnExactTrimScheme': WHATEVER THE INPUT: true; the input reads as it did. -/
def fnExactTrimSchemeSpec : ChangeSpec := { name := "fnExactTrimScheme", fn := fun _ => fun
  | [d] => { results := [.lit (.bool true)], args := [d] }
  | _ => none }
def fnExactTrimSchemeRow : OpenClaim := { program := "yticobjbjejpomaa", sum := "41b503d7893fd96c6628f97456906b1af779fac41529dceca60900c68768e3da", func := "loop.example/g01117/laws.FnExactTrimScheme", spec := "fnExactTrimScheme", unfollowed := true, recurses := true, apart := false }
def FnExactTrimSchemeSaid : Prop := fnExactTrimSchemeRow.holds Try.pinned (OpenSpec.ofChange fnExactTrimSchemeSpec)

/-- ITS FALSE NEIGHBOUR: 'it returns false'. Refute it at one input. -/
def fnExactTrimSchemeWrong : ChangeSpec := { name := "fnExactTrimScheme", fn := fun _ => fun
  | [d] => { results := [.lit (.bool false)], args := [d] }
  | _ => none }
def FnExactTrimSchemeWrongFalsely : Prop := fnExactTrimSchemeRow.holds Try.pinned (OpenSpec.ofChange fnExactTrimSchemeWrong)

/-- 'laws.FnExactSchemeOfGate': WHATEVER THE INPUT: true; the input reads as it did. -/
def fnExactSchemeOfGateSpec : ChangeSpec := { name := "fnExactSchemeOfGate", fn := fun _ => fun
  | [d1, d2, d3] => { results := [.lit (.bool true)], args := [d1, d2, d3] }
  | _ => none }
def fnExactSchemeOfGateRow : OpenClaim := { program := "yticobjbjejpomaa", sum := "41b503d7893fd96c6628f97456906b1af779fac41529dceca60900c68768e3da", func := "loop.example/g01117/laws.FnExactSchemeOfGate", spec := "fnExactSchemeOfGate", unfollowed := true, recurses := true, loops := true, apart := false }
def FnExactSchemeOfGateSaid : Prop := fnExactSchemeOfGateRow.holds Try.pinned (OpenSpec.ofChange fnExactSchemeOfGateSpec)

/-- ITS FALSE NEIGHBOUR: 'it returns false'. Refute it at one input. -/
def fnExactSchemeOfGateWrong : ChangeSpec := { name := "fnExactSchemeOfGate", fn := fun _ => fun
  | [d1, d2, d3] => { results := [.lit (.bool false)], args := [d1, d2, d3] }
  | _ => none }
def FnExactSchemeOfGateWrongFalsely : Prop := fnExactSchemeOfGateRow.holds Try.pinned (OpenSpec.ofChange fnExactSchemeOfGateWrong)

/-- 'laws.FnExactSchemeOfFamily': WHATEVER THE INPUT: true; the input reads as it did. -/
def fnExactSchemeOfFamilySpec : ChangeSpec := { name := "fnExactSchemeOfFamily", fn := fun _ => fun
  | [d1, d2] => { results := [.lit (.bool true)], args := [d1, d2] }
  | _ => none }
def fnExactSchemeOfFamilyRow : OpenClaim := { program := "yticobjbjejpomaa", sum := "41b503d7893fd96c6628f97456906b1af779fac41529dceca60900c68768e3da", func := "loop.example/g01117/laws.FnExactSchemeOfFamily", spec := "fnExactSchemeOfFamily", unfollowed := true, recurses := true, apart := false }
def FnExactSchemeOfFamilySaid : Prop := fnExactSchemeOfFamilyRow.holds Try.pinned (OpenSpec.ofChange fnExactSchemeOfFamilySpec)

/-- ITS FALSE NEIGHBOUR: 'it returns false'. Refute it at one input. -/
def fnExactSchemeOfFamilyWrong : ChangeSpec := { name := "fnExactSchemeOfFamily", fn := fun _ => fun
  | [d1, d2] => { results := [.lit (.bool false)], args := [d1, d2] }
  | _ => none }
def FnExactSchemeOfFamilyWrongFalsely : Prop := fnExactSchemeOfFamilyRow.holds Try.pinned (OpenSpec.ofChange fnExactSchemeOfFamilyWrong)

/-- 'laws.FnCurveRows': WHATEVER THE INPUT: true; the input reads as it did. -/
def fnCurveRowsSpec : ChangeSpec := { name := "fnCurveRows", fn := fun _ => fun
  | [d1, d2] => { results := [.lit (.bool true)], args := [d1, d2] }
  | _ => none }
def fnCurveRowsRow : OpenClaim := { program := "yticobjbjejpomaa", sum := "41b503d7893fd96c6628f97456906b1af779fac41529dceca60900c68768e3da", func := "loop.example/g01117/laws.FnCurveRows", spec := "fnCurveRows", unfollowed := true, recurses := true, apart := false }
def FnCurveRowsSaid : Prop := fnCurveRowsRow.holds Try.pinned (OpenSpec.ofChange fnCurveRowsSpec)

/-- ITS FALSE NEIGHBOUR: 'it returns false'. Refute it at one input. -/
def fnCurveRowsWrong : ChangeSpec := { name := "fnCurveRows", fn := fun _ => fun
  | [d1, d2] => { results := [.lit (.bool false)], args := [d1, d2] }
  | _ => none }
def FnCurveRowsWrongFalsely : Prop := fnCurveRowsRow.holds Try.pinned (OpenSpec.ofChange fnCurveRowsWrong)

/- THE SECOND FORM. 'bulk': how many values and letters a reading holds, each counted each time it is reached (what is shared counts as often as it is met; a slice's spare places count too). A statement '..UptoSaid' is the law's where the arguments, and the package variables that the reading takes, are together of bulk at most 1048576: NARROWER than '..Said'. Prove '..Said' where nothing that the law and all that it calls make is longer than what came in: it says more and counts as full. Else prove '..UptoSaid'. A law counts once. -/
mutual
def uptoBulk {H : Type} : DataW H → Nat
  | .lit (.string bytes) => bytes.length + 1
  | .lit _ => 1
  | .nil => 1
  | .ptr d => uptoBulk d + 1
  | .slice elems spare => uptoBulkAll elems + uptoBulkAll spare + 1
  | .agg parts => uptoBulkAll parts + 1
  | .iface _ d => uptoBulk d + 1
  | .map entries => uptoBulkEntries entries + 1
  | .held _ => 1
def uptoBulkAll {H : Type} : List (DataW H) → Nat
  | [] => 0
  | d :: r => uptoBulk d + uptoBulkAll r
def uptoBulkEntries {H : Type} : List (Lit × DataW H) → Nat
  | [] => 0
  | x :: r => uptoBulkEntry x + uptoBulkEntries r
def uptoBulkEntry {H : Type} : Lit × DataW H → Nat
  | (.string bytes, d) => bytes.length + uptoBulk d + 1
  | (_, d) => uptoBulk d + 1
 end
def uptoSmall : (H : Type) → List (DataW H) → Bool := fun _ ds => decide (uptoBulkAll ds ≤ 1048576)
def OpenSpec.upto (s : _root_.Go.ChangeSpec) : _root_.Go.OpenSpec := { _root_.Go.OpenSpec.ofChange s with cond := some uptoSmall }

/-- 'laws.FnExactBothScheme', WHERE WHAT IT READS IS OF BULK AT MOST 1048576: true; the input reads as it did. -/
def fnExactBothSchemeUptoRow : OpenClaim := { program := "yticobjbjejpomaa", sum := "41b503d7893fd96c6628f97456906b1af779fac41529dceca60900c68768e3da", func := "loop.example/g01117/laws.FnExactBothScheme", spec := "fnExactBothScheme", unfollowed := true, recurses := true, apart := false, narrowed := true }
def FnExactBothSchemeUptoSaid : Prop := fnExactBothSchemeUptoRow.holds Try.pinned (OpenSpec.upto fnExactBothSchemeSpec)

/-- 'laws.FnExactIsConsistent', WHERE WHAT IT READS IS OF BULK AT MOST 1048576: true; the input reads as it did. -/
def fnExactIsConsistentUptoRow : OpenClaim := { program := "yticobjbjejpomaa", sum := "41b503d7893fd96c6628f97456906b1af779fac41529dceca60900c68768e3da", func := "loop.example/g01117/laws.FnExactIsConsistent", spec := "fnExactIsConsistent", unfollowed := true, recurses := true, apart := false, narrowed := true }
def FnExactIsConsistentUptoSaid : Prop := fnExactIsConsistentUptoRow.holds Try.pinned (OpenSpec.upto fnExactIsConsistentSpec)

/-- 'laws.FnExactSchemeOpens', WHERE WHAT IT READS IS OF BULK AT MOST 1048576: true; the input reads as it did. -/
def fnExactSchemeOpensUptoRow : OpenClaim := { program := "yticobjbjejpomaa", sum := "41b503d7893fd96c6628f97456906b1af779fac41529dceca60900c68768e3da", func := "loop.example/g01117/laws.FnExactSchemeOpens", spec := "fnExactSchemeOpens", unfollowed := true, recurses := true, apart := false, narrowed := true }
def FnExactSchemeOpensUptoSaid : Prop := fnExactSchemeOpensUptoRow.holds Try.pinned (OpenSpec.upto fnExactSchemeOpensSpec)

/-- 'laws.FnExactOpeningElements', WHERE WHAT IT READS IS OF BULK AT MOST 1048576: true; the input reads as it did. -/
def fnExactOpeningElementsUptoRow : OpenClaim := { program := "yticobjbjejpomaa", sum := "41b503d7893fd96c6628f97456906b1af779fac41529dceca60900c68768e3da", func := "loop.example/g01117/laws.FnExactOpeningElements", spec := "fnExactOpeningElements", unfollowed := true, recurses := true, apart := false, narrowed := true }
def FnExactOpeningElementsUptoSaid : Prop := fnExactOpeningElementsUptoRow.holds Try.pinned (OpenSpec.upto fnExactOpeningElementsSpec)

/-- 'laws.FnExactCompletion', WHERE WHAT IT READS IS OF BULK AT MOST 1048576: true; the input reads as it did. -/
def fnExactCompletionUptoRow : OpenClaim := { program := "yticobjbjejpomaa", sum := "41b503d7893fd96c6628f97456906b1af779fac41529dceca60900c68768e3da", func := "loop.example/g01117/laws.FnExactCompletion", spec := "fnExactCompletion", unfollowed := true, recurses := true, apart := false, narrowed := true }
def FnExactCompletionUptoSaid : Prop := fnExactCompletionUptoRow.holds Try.pinned (OpenSpec.upto fnExactCompletionSpec)

/-- 'laws.FnExactRebuild', WHERE WHAT IT READS IS OF BULK AT MOST 1048576: true; the input reads as it did. -/
def fnExactRebuildUptoRow : OpenClaim := { program := "yticobjbjejpomaa", sum := "41b503d7893fd96c6628f97456906b1af779fac41529dceca60900c68768e3da", func := "loop.example/g01117/laws.FnExactRebuild", spec := "fnExactRebuild", unfollowed := true, recurses := true, apart := false, narrowed := true }
def FnExactRebuildUptoSaid : Prop := fnExactRebuildUptoRow.holds Try.pinned (OpenSpec.upto fnExactRebuildSpec)

/-- 'laws.FnExactTrimScheme', WHERE WHAT IT READS IS OF BULK AT MOST 1048576: true; the input reads as it did. -/
def fnExactTrimSchemeUptoRow : OpenClaim := { program := "yticobjbjejpomaa", sum := "41b503d7893fd96c6628f97456906b1af779fac41529dceca60900c68768e3da", func := "loop.example/g01117/laws.FnExactTrimScheme", spec := "fnExactTrimScheme", unfollowed := true, recurses := true, apart := false, narrowed := true }
def FnExactTrimSchemeUptoSaid : Prop := fnExactTrimSchemeUptoRow.holds Try.pinned (OpenSpec.upto fnExactTrimSchemeSpec)

/-- 'laws.FnExactSchemeOfGate', WHERE WHAT IT READS IS OF BULK AT MOST 1048576: true; the input reads as it did. -/
def fnExactSchemeOfGateUptoRow : OpenClaim := { program := "yticobjbjejpomaa", sum := "41b503d7893fd96c6628f97456906b1af779fac41529dceca60900c68768e3da", func := "loop.example/g01117/laws.FnExactSchemeOfGate", spec := "fnExactSchemeOfGate", unfollowed := true, recurses := true, loops := true, apart := false, narrowed := true }
def FnExactSchemeOfGateUptoSaid : Prop := fnExactSchemeOfGateUptoRow.holds Try.pinned (OpenSpec.upto fnExactSchemeOfGateSpec)

/-- 'laws.FnExactSchemeOfFamily', WHERE WHAT IT READS IS OF BULK AT MOST 1048576: true; the input reads as it did. -/
def fnExactSchemeOfFamilyUptoRow : OpenClaim := { program := "yticobjbjejpomaa", sum := "41b503d7893fd96c6628f97456906b1af779fac41529dceca60900c68768e3da", func := "loop.example/g01117/laws.FnExactSchemeOfFamily", spec := "fnExactSchemeOfFamily", unfollowed := true, recurses := true, apart := false, narrowed := true }
def FnExactSchemeOfFamilyUptoSaid : Prop := fnExactSchemeOfFamilyUptoRow.holds Try.pinned (OpenSpec.upto fnExactSchemeOfFamilySpec)

/-- 'laws.FnCurveRows', WHERE WHAT IT READS IS OF BULK AT MOST 1048576: true; the input reads as it did. -/
def fnCurveRowsUptoRow : OpenClaim := { program := "yticobjbjejpomaa", sum := "41b503d7893fd96c6628f97456906b1af779fac41529dceca60900c68768e3da", func := "loop.example/g01117/laws.FnCurveRows", spec := "fnCurveRows", unfollowed := true, recurses := true, apart := false, narrowed := true }
def FnCurveRowsUptoSaid : Prop := fnCurveRowsUptoRow.holds Try.pinned (OpenSpec.upto fnCurveRowsSpec)

end Rows
end Go.Proofs.Yticobjbjejpomaa
