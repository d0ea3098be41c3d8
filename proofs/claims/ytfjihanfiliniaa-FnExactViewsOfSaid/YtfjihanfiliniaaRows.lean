/-
  No cell of these rows narrows 'for every input' (looked for: loops, veiled, ifaces, maps, wideKeys, modest, calm, conditions, laid).
  DERIVED. THE GIVEN ROWS OF THIS SEAT. 7 by the template 'for every input the law returns true; each argument reads behind the call as it read before'; 0 by the template 'total and deterministic' (their statements: YtfjihanfiliniaaTotals.lean).
  GIVEN WITH THE SEED: the statements are not yours to turn. If you find one false, say at which input.
  Laid BY PROGRAM, IN A SANDBOX (cutbox-rows.mjs): the forced cells as the released guide's own fill.sh prints them over the translation 1c68d58334fcd561… (all of the seat's roots in one cut). By AI agents, Wed Nov 11 2026. No macro, syntax, notation, axiom, sorry.
-/
import Derived.Test.YtfjihanfiliniaaChecked
import GoSem.Claim
import GoSem.ClaimJoined
import GoSem.ClaimMapViews
import Derived.JoinedTies
import Derived.KernelRfl
namespace Go.Proofs.Ytfjihanfiliniaa
/- THE CELL 'sum', in the pinned program and in every row, IS THE sha256 OF THE DUMP (.gsa) THAT YtfjihanfiliniaaProg.lean LOADS. Nothing in Lean hashes anything: it is a label: what it is worth is what the hold of that sum in a sandbox is worth. -/
noncomputable def Try.pinned : Pinned := { name := "ytfjihanfiliniaa", sum := "1c68d58334fcd561620f3e33d627323450568f770398fb88c4a08a6f12942b46", checked := Try.checked }
namespace Rows
def none {H : Type} : Left H := { results := [], args := [] }

/-- 'laws.FnExactSameTable': WHATEVER THE INPUT: true; the input reads as it did. -/
def fnExactSameTableSpec : ChangeSpec := { name := "fnExactSameTable", fn := fun _ => fun
  | [d1, d2] => { results := [.lit (.bool true)], args := [d1, d2] }
  | _ => none }
def fnExactSameTableRow : OpenClaim := { program := "ytfjihanfiliniaa", sum := "1c68d58334fcd561620f3e33d627323450568f770398fb88c4a08a6f12942b46", func := "loop.example/g01117/laws.FnExactSameTable", spec := "fnExactSameTable", unfollowed := true, recurses := true, apart := false }
def FnExactSameTableSaid : Prop := fnExactSameTableRow.holds Try.pinned (OpenSpec.ofChange fnExactSameTableSpec)

/-- ITS FALSE NEIGHBOUR: 'it returns false'. Refute it at one input. -/
def fnExactSameTableWrong : ChangeSpec := { name := "fnExactSameTable", fn := fun _ => fun
  | [d1, d2] => { results := [.lit (.bool false)], args := [d1, d2] }
  | _ => none }
def FnExactSameTableWrongFalsely : Prop := fnExactSameTableRow.holds Try.pinned (OpenSpec.ofChange fnExactSameTableWrong)

/-- 'laws.FnExactValidTable': WHATEVER THE INPUT: true; the input reads as it did. -/
def fnExactValidTableSpec : ChangeSpec := { name := "fnExactValidTable", fn := fun _ => fun
  | [d] => { results := [.lit (.bool true)], args := [d] }
  | _ => none }
def fnExactValidTableRow : OpenClaim := { program := "ytfjihanfiliniaa", sum := "1c68d58334fcd561620f3e33d627323450568f770398fb88c4a08a6f12942b46", func := "loop.example/g01117/laws.FnExactValidTable", spec := "fnExactValidTable", apart := false }
def FnExactValidTableSaid : Prop := fnExactValidTableRow.holds Try.pinned (OpenSpec.ofChange fnExactValidTableSpec)

/-- ITS FALSE NEIGHBOUR: 'it returns false'. Refute it at one input. -/
def fnExactValidTableWrong : ChangeSpec := { name := "fnExactValidTable", fn := fun _ => fun
  | [d] => { results := [.lit (.bool false)], args := [d] }
  | _ => none }
def FnExactValidTableWrongFalsely : Prop := fnExactValidTableRow.holds Try.pinned (OpenSpec.ofChange fnExactValidTableWrong)

/-- 'laws.FnExactOpenView': WHATEVER THE INPUT: true; the input reads as it did. -/
def fnExactOpenViewSpec : ChangeSpec := { name := "fnExactOpenView", fn := fun _ => fun
  | [d1, d2, d3] => { results := [.lit (.bool true)], args := [d1, d2, d3] }
  | _ => none }
def fnExactOpenViewRow : OpenClaim := { program := "ytfjihanfiliniaa", sum := "1c68d58334fcd561620f3e33d627323450568f770398fb88c4a08a6f12942b46", func := "loop.example/g01117/laws.FnExactOpenView", spec := "fnExactOpenView", inPlace := ["slices.overlaps[loop.example/g01117/impl.sight]"], unfollowed := true, recurses := true, apart := false }
def FnExactOpenViewSaid : Prop := fnExactOpenViewRow.holds Try.pinned (OpenSpec.ofChange fnExactOpenViewSpec)

/-- ITS FALSE NEIGHBOUR: 'it returns false'. Refute it at one input. -/
def fnExactOpenViewWrong : ChangeSpec := { name := "fnExactOpenView", fn := fun _ => fun
  | [d1, d2, d3] => { results := [.lit (.bool false)], args := [d1, d2, d3] }
  | _ => none }
def FnExactOpenViewWrongFalsely : Prop := fnExactOpenViewRow.holds Try.pinned (OpenSpec.ofChange fnExactOpenViewWrong)

/-- 'laws.FnExactTableHides': WHATEVER THE INPUT: true; the input reads as it did. -/
def fnExactTableHidesSpec : ChangeSpec := { name := "fnExactTableHides", fn := fun _ => fun
  | [d1, d2] => { results := [.lit (.bool true)], args := [d1, d2] }
  | _ => none }
def fnExactTableHidesRow : OpenClaim := { program := "ytfjihanfiliniaa", sum := "1c68d58334fcd561620f3e33d627323450568f770398fb88c4a08a6f12942b46", func := "loop.example/g01117/laws.FnExactTableHides", spec := "fnExactTableHides", inPlace := ["slices.overlaps[loop.example/g01117/impl.sight]"], unfollowed := true, recurses := true, apart := false }
def FnExactTableHidesSaid : Prop := fnExactTableHidesRow.holds Try.pinned (OpenSpec.ofChange fnExactTableHidesSpec)

/-- ITS FALSE NEIGHBOUR: 'it returns false'. Refute it at one input. -/
def fnExactTableHidesWrong : ChangeSpec := { name := "fnExactTableHides", fn := fun _ => fun
  | [d1, d2] => { results := [.lit (.bool false)], args := [d1, d2] }
  | _ => none }
def FnExactTableHidesWrongFalsely : Prop := fnExactTableHidesRow.holds Try.pinned (OpenSpec.ofChange fnExactTableHidesWrong)

/-- 'laws.FnExactGuessChance': WHATEVER THE INPUT: true; the input reads as it did. -/
def fnExactGuessChanceSpec : ChangeSpec := { name := "fnExactGuessChance", fn := fun _ => fun
  | [d1, d2] => { results := [.lit (.bool true)], args := [d1, d2] }
  | _ => none }
def fnExactGuessChanceRow : OpenClaim := { program := "ytfjihanfiliniaa", sum := "1c68d58334fcd561620f3e33d627323450568f770398fb88c4a08a6f12942b46", func := "loop.example/g01117/laws.FnExactGuessChance", spec := "fnExactGuessChance", inPlace := ["slices.overlaps[loop.example/g01117/impl.sight]"], unfollowed := true, recurses := true, apart := false }
def FnExactGuessChanceSaid : Prop := fnExactGuessChanceRow.holds Try.pinned (OpenSpec.ofChange fnExactGuessChanceSpec)

/-- ITS FALSE NEIGHBOUR: 'it returns false'. Refute it at one input. -/
def fnExactGuessChanceWrong : ChangeSpec := { name := "fnExactGuessChance", fn := fun _ => fun
  | [d1, d2] => { results := [.lit (.bool false)], args := [d1, d2] }
  | _ => none }
def FnExactGuessChanceWrongFalsely : Prop := fnExactGuessChanceRow.holds Try.pinned (OpenSpec.ofChange fnExactGuessChanceWrong)

/-- 'laws.FnExactTableOpens': WHATEVER THE INPUT: true; the input reads as it did. -/
def fnExactTableOpensSpec : ChangeSpec := { name := "fnExactTableOpens", fn := fun _ => fun
  | [d1, d2] => { results := [.lit (.bool true)], args := [d1, d2] }
  | _ => none }
def fnExactTableOpensRow : OpenClaim := { program := "ytfjihanfiliniaa", sum := "1c68d58334fcd561620f3e33d627323450568f770398fb88c4a08a6f12942b46", func := "loop.example/g01117/laws.FnExactTableOpens", spec := "fnExactTableOpens", inPlace := ["slices.overlaps[loop.example/g01117/impl.sight]"], unfollowed := true, recurses := true, apart := false }
def FnExactTableOpensSaid : Prop := fnExactTableOpensRow.holds Try.pinned (OpenSpec.ofChange fnExactTableOpensSpec)

/-- ITS FALSE NEIGHBOUR: 'it returns false'. Refute it at one input. -/
def fnExactTableOpensWrong : ChangeSpec := { name := "fnExactTableOpens", fn := fun _ => fun
  | [d1, d2] => { results := [.lit (.bool false)], args := [d1, d2] }
  | _ => none }
def FnExactTableOpensWrongFalsely : Prop := fnExactTableOpensRow.holds Try.pinned (OpenSpec.ofChange fnExactTableOpensWrong)

/-- 'laws.FnExactViewsOf': WHATEVER THE INPUT: true; the input reads as it did. -/
def fnExactViewsOfSpec : ChangeSpec := { name := "fnExactViewsOf", fn := fun _ => fun
  | [d1, d2] => { results := [.lit (.bool true)], args := [d1, d2] }
  | _ => none }
def fnExactViewsOfRow : OpenClaim := { program := "ytfjihanfiliniaa", sum := "1c68d58334fcd561620f3e33d627323450568f770398fb88c4a08a6f12942b46", func := "loop.example/g01117/laws.FnExactViewsOf", spec := "fnExactViewsOf", inPlace := ["slices.overlaps[loop.example/g01117/impl.sight]"], unfollowed := true, recurses := true, apart := false }
def FnExactViewsOfSaid : Prop := fnExactViewsOfRow.holds Try.pinned (OpenSpec.ofChange fnExactViewsOfSpec)

/-- ITS FALSE NEIGHBOUR: 'it returns false'. Refute it at one input. -/
def fnExactViewsOfWrong : ChangeSpec := { name := "fnExactViewsOf", fn := fun _ => fun
  | [d1, d2] => { results := [.lit (.bool false)], args := [d1, d2] }
  | _ => none }
def FnExactViewsOfWrongFalsely : Prop := fnExactViewsOfRow.holds Try.pinned (OpenSpec.ofChange fnExactViewsOfWrong)

/- THE SECOND FORM. 'bulk': how many values and letters a reading holds, each counted each time it is reached (what is shared counts as often as it is met; a slice's spare places count too). A statement '..UptoSaid' is the law's where the arguments, and the package variables that the reading takes, are together of bulk at most 1048576: NARROWER than '..Said'. Prove '..Said' where nothing that the law and all that it calls make is longer than what came in: it says more and counts as full. Else prove '..UptoSaid'. A law counts once. -/
mutual
def uptoBulk {H : Type} : DataW H → Nat
  | .lit (.string bytes) => bytes.length + 1
  | .lit _ => 1
  | .nil => 1
  | .ptr d => uptoBulk d + 1
  | .slice elems spare => uptoBulkAll elems + uptoBulkAll spare + 1
  | .agg parts => uptoBulkAll parts + 1
  | .iface _ d => uptoBulk d + 1
  | .map entries => uptoBulkEntries entries + 1
  | .held _ => 1
def uptoBulkAll {H : Type} : List (DataW H) → Nat
  | [] => 0
  | d :: r => uptoBulk d + uptoBulkAll r
def uptoBulkEntries {H : Type} : List (Lit × DataW H) → Nat
  | [] => 0
  | x :: r => uptoBulkEntry x + uptoBulkEntries r
def uptoBulkEntry {H : Type} : Lit × DataW H → Nat
  | (.string bytes, d) => bytes.length + uptoBulk d + 1
  | (_, d) => uptoBulk d + 1
 end
def uptoSmall : (H : Type) → List (DataW H) → Bool := fun _ ds => decide (uptoBulkAll ds ≤ 1048576)
def OpenSpec.upto (s : _root_.Go.ChangeSpec) : _root_.Go.OpenSpec := { _root_.Go.OpenSpec.ofChange s with cond := some uptoSmall }

/-- 'laws.FnExactSameTable', WHERE WHAT IT READS IS OF BULK AT MOST 1048576: true; the input reads as it did. -/
def fnExactSameTableUptoRow : OpenClaim := { program := "ytfjihanfiliniaa", sum := "1c68d58334fcd561620f3e33d627323450568f770398fb88c4a08a6f12942b46", func := "loop.example/g01117/laws.FnExactSameTable", spec := "fnExactSameTable", unfollowed := true, recurses := true, apart := false, narrowed := true }
def FnExactSameTableUptoSaid : Prop := fnExactSameTableUptoRow.holds Try.pinned (OpenSpec.upto fnExactSameTableSpec)

/-- 'laws.FnExactValidTable', WHERE WHAT IT READS IS OF BULK AT MOST 1048576: true; the input reads as it did. -/
def fnExactValidTableUptoRow : OpenClaim := { program := "ytfjihanfiliniaa", sum := "1c68d58334fcd561620f3e33d627323450568f770398fb88c4a08a6f12942b46", func := "loop.example/g01117/laws.FnExactValidTable", spec := "fnExactValidTable", apart := false, narrowed := true }
def FnExactValidTableUptoSaid : Prop := fnExactValidTableUptoRow.holds Try.pinned (OpenSpec.upto fnExactValidTableSpec)

/-- 'laws.FnExactOpenView', WHERE WHAT IT READS IS OF BULK AT MOST 1048576: true; the input reads as it did. -/
def fnExactOpenViewUptoRow : OpenClaim := { program := "ytfjihanfiliniaa", sum := "1c68d58334fcd561620f3e33d627323450568f770398fb88c4a08a6f12942b46", func := "loop.example/g01117/laws.FnExactOpenView", spec := "fnExactOpenView", inPlace := ["slices.overlaps[loop.example/g01117/impl.sight]"], unfollowed := true, recurses := true, apart := false, narrowed := true }
def FnExactOpenViewUptoSaid : Prop := fnExactOpenViewUptoRow.holds Try.pinned (OpenSpec.upto fnExactOpenViewSpec)

/-- 'laws.FnExactTableHides', WHERE WHAT IT READS IS OF BULK AT MOST 1048576: true; the input reads as it did. -/
def fnExactTableHidesUptoRow : OpenClaim := { program := "ytfjihanfiliniaa", sum := "1c68d58334fcd561620f3e33d627323450568f770398fb88c4a08a6f12942b46", func := "loop.example/g01117/laws.FnExactTableHides", spec := "fnExactTableHides", inPlace := ["slices.overlaps[loop.example/g01117/impl.sight]"], unfollowed := true, recurses := true, apart := false, narrowed := true }
def FnExactTableHidesUptoSaid : Prop := fnExactTableHidesUptoRow.holds Try.pinned (OpenSpec.upto fnExactTableHidesSpec)

/-- 'laws.FnExactGuessChance', WHERE WHAT IT READS IS OF BULK AT MOST 1048576: true; the input reads as it did. -/
def fnExactGuessChanceUptoRow : OpenClaim := { program := "ytfjihanfiliniaa", sum := "1c68d58334fcd561620f3e33d627323450568f770398fb88c4a08a6f12942b46", func := "loop.example/g01117/laws.FnExactGuessChance", spec := "fnExactGuessChance", inPlace := ["slices.overlaps[loop.example/g01117/impl.sight]"], unfollowed := true, recurses := true, apart := false, narrowed := true }
def FnExactGuessChanceUptoSaid : Prop := fnExactGuessChanceUptoRow.holds Try.pinned (OpenSpec.upto fnExactGuessChanceSpec)

/-- 'laws.FnExactTableOpens', WHERE WHAT IT READS IS OF BULK AT MOST 1048576: true; the input reads as it did. -/
def fnExactTableOpensUptoRow : OpenClaim := { program := "ytfjihanfiliniaa", sum := "1c68d58334fcd561620f3e33d627323450568f770398fb88c4a08a6f12942b46", func := "loop.example/g01117/laws.FnExactTableOpens", spec := "fnExactTableOpens", inPlace := ["slices.overlaps[loop.example/g01117/impl.sight]"], unfollowed := true, recurses := true, apart := false, narrowed := true }
def FnExactTableOpensUptoSaid : Prop := fnExactTableOpensUptoRow.holds Try.pinned (OpenSpec.upto fnExactTableOpensSpec)

/-- 'laws.FnExactViewsOf', WHERE WHAT IT READS IS OF BULK AT MOST 1048576: true; the input reads as it did. -/
def fnExactViewsOfUptoRow : OpenClaim := { program := "ytfjihanfiliniaa", sum := "1c68d58334fcd561620f3e33d627323450568f770398fb88c4a08a6f12942b46", func := "loop.example/g01117/laws.FnExactViewsOf", spec := "fnExactViewsOf", inPlace := ["slices.overlaps[loop.example/g01117/impl.sight]"], unfollowed := true, recurses := true, apart := false, narrowed := true }
def FnExactViewsOfUptoSaid : Prop := fnExactViewsOfUptoRow.holds Try.pinned (OpenSpec.upto fnExactViewsOfSpec)

end Rows
end Go.Proofs.Ytfjihanfiliniaa
