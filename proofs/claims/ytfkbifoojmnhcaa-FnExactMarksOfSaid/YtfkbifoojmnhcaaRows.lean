/-
  No cell of these rows narrows 'for every input' (looked for: loops, veiled, ifaces, maps, wideKeys, modest, calm, conditions, laid).
  DERIVED. THE GIVEN ROWS OF THIS SEAT. 12 by the template 'for every input the law returns true; each argument reads behind the call as it read before'; 0 by the template 'total and deterministic' (their statements: YtfkbifoojmnhcaaTotals.lean).
  GIVEN WITH THE SEED: the statements are not yours to turn. If you find one false, say at which input.
  Laid BY PROGRAM, IN A SANDBOX (cutbox-rows.mjs): the forced cells as the released guide's own fill.sh prints them over the translation 541bf667b1b28cb1… (all of the seat's roots in one cut). By AI agents, Wed Nov 11 2026. No macro, syntax, notation, axiom, sorry.
-/
import Derived.Test.YtfkbifoojmnhcaaChecked
import GoSem.Claim
import GoSem.ClaimJoined
import GoSem.ClaimMapViews
import Derived.JoinedTies
import Derived.KernelRfl
namespace Go.Proofs.Ytfkbifoojmnhcaa
/- THE CELL 'sum', in the pinned program and in every row, IS THE sha256 OF THE DUMP (.gsa) THAT YtfkbifoojmnhcaaProg.lean LOADS. Nothing in Lean hashes anything: it is a label: what it is worth is what the hold of that sum in a sandbox is worth. -/
noncomputable def Try.pinned : Pinned := { name := "ytfkbifoojmnhcaa", sum := "541bf667b1b28cb197e4ddeb5cd53f9585266d80d69a6e0dfc75692b70d1d6e4", checked := Try.checked }
namespace Rows
def none {H : Type} : Left H := { results := [], args := [] }

/-- 'laws.FnExactNearestMark': WHATEVER THE INPUT: true; the input reads as it did. -/
def fnExactNearestMarkSpec : ChangeSpec := { name := "fnExactNearestMark", fn := fun _ => fun
  | [d1, d2] => { results := [.lit (.bool true)], args := [d1, d2] }
  | _ => none }
def fnExactNearestMarkRow : OpenClaim := { program := "ytfkbifoojmnhcaa", sum := "541bf667b1b28cb197e4ddeb5cd53f9585266d80d69a6e0dfc75692b70d1d6e4", func := "loop.example/g00951/laws.FnExactNearestMark", spec := "fnExactNearestMark", apart := false }
def FnExactNearestMarkSaid : Prop := fnExactNearestMarkRow.holds Try.pinned (OpenSpec.ofChange fnExactNearestMarkSpec)

/-- ITS FALSE NEIGHBOUR: 'it returns false'. Refute it at one input. -/
def fnExactNearestMarkWrong : ChangeSpec := { name := "fnExactNearestMark", fn := fun _ => fun
  | [d1, d2] => { results := [.lit (.bool false)], args := [d1, d2] }
  | _ => none }
def FnExactNearestMarkWrongFalsely : Prop := fnExactNearestMarkRow.holds Try.pinned (OpenSpec.ofChange fnExactNearestMarkWrong)

/-- 'laws.FnExactHasScale': WHATEVER THE INPUT: true; the input reads as it did. -/
def fnExactHasScaleSpec : ChangeSpec := { name := "fnExactHasScale", fn := fun _ => fun
  | [d1, d2, d3] => { results := [.lit (.bool true)], args := [d1, d2, d3] }
  | _ => none }
def fnExactHasScaleRow : OpenClaim := { program := "ytfkbifoojmnhcaa", sum := "541bf667b1b28cb197e4ddeb5cd53f9585266d80d69a6e0dfc75692b70d1d6e4", func := "loop.example/g00951/laws.FnExactHasScale", spec := "fnExactHasScale", apart := false }
def FnExactHasScaleSaid : Prop := fnExactHasScaleRow.holds Try.pinned (OpenSpec.ofChange fnExactHasScaleSpec)

/-- ITS FALSE NEIGHBOUR: 'it returns false'. Refute it at one input. -/
def fnExactHasScaleWrong : ChangeSpec := { name := "fnExactHasScale", fn := fun _ => fun
  | [d1, d2, d3] => { results := [.lit (.bool false)], args := [d1, d2, d3] }
  | _ => none }
def FnExactHasScaleWrongFalsely : Prop := fnExactHasScaleRow.holds Try.pinned (OpenSpec.ofChange fnExactHasScaleWrong)

/-- 'laws.FnExactWorstDigits': WHATEVER THE INPUT: true; the input reads as it did. -/
def fnExactWorstDigitsSpec : ChangeSpec := { name := "fnExactWorstDigits", fn := fun _ => fun
  | [d1, d2, d3] => { results := [.lit (.bool true)], args := [d1, d2, d3] }
  | _ => none }
def fnExactWorstDigitsRow : OpenClaim := { program := "ytfkbifoojmnhcaa", sum := "541bf667b1b28cb197e4ddeb5cd53f9585266d80d69a6e0dfc75692b70d1d6e4", func := "loop.example/g00951/laws.FnExactWorstDigits", spec := "fnExactWorstDigits", apart := false }
def FnExactWorstDigitsSaid : Prop := fnExactWorstDigitsRow.holds Try.pinned (OpenSpec.ofChange fnExactWorstDigitsSpec)

/-- ITS FALSE NEIGHBOUR: 'it returns false'. Refute it at one input. -/
def fnExactWorstDigitsWrong : ChangeSpec := { name := "fnExactWorstDigits", fn := fun _ => fun
  | [d1, d2, d3] => { results := [.lit (.bool false)], args := [d1, d2, d3] }
  | _ => none }
def FnExactWorstDigitsWrongFalsely : Prop := fnExactWorstDigitsRow.holds Try.pinned (OpenSpec.ofChange fnExactWorstDigitsWrong)

/-- 'laws.FnExactCountHeights': WHATEVER THE INPUT: true; the input reads as it did. -/
def fnExactCountHeightsSpec : ChangeSpec := { name := "fnExactCountHeights", fn := fun _ => fun
  | [d] => { results := [.lit (.bool true)], args := [d] }
  | _ => none }
def fnExactCountHeightsRow : OpenClaim := { program := "ytfkbifoojmnhcaa", sum := "541bf667b1b28cb197e4ddeb5cd53f9585266d80d69a6e0dfc75692b70d1d6e4", func := "loop.example/g00951/laws.FnExactCountHeights", spec := "fnExactCountHeights", apart := false }
def FnExactCountHeightsSaid : Prop := fnExactCountHeightsRow.holds Try.pinned (OpenSpec.ofChange fnExactCountHeightsSpec)

/-- ITS FALSE NEIGHBOUR: 'it returns false'. Refute it at one input. -/
def fnExactCountHeightsWrong : ChangeSpec := { name := "fnExactCountHeights", fn := fun _ => fun
  | [d] => { results := [.lit (.bool false)], args := [d] }
  | _ => none }
def FnExactCountHeightsWrongFalsely : Prop := fnExactCountHeightsRow.holds Try.pinned (OpenSpec.ofChange fnExactCountHeightsWrong)

/-- 'laws.FnExactMarksOf': WHATEVER THE INPUT: true; the input reads as it did. -/
def fnExactMarksOfSpec : ChangeSpec := { name := "fnExactMarksOf", fn := fun _ => fun
  | [d1, d2, d3] => { results := [.lit (.bool true)], args := [d1, d2, d3] }
  | _ => none }
def fnExactMarksOfRow : OpenClaim := { program := "ytfkbifoojmnhcaa", sum := "541bf667b1b28cb197e4ddeb5cd53f9585266d80d69a6e0dfc75692b70d1d6e4", func := "loop.example/g00951/laws.FnExactMarksOf", spec := "fnExactMarksOf", unfollowed := true, recurses := true, apart := false }
def FnExactMarksOfSaid : Prop := fnExactMarksOfRow.holds Try.pinned (OpenSpec.ofChange fnExactMarksOfSpec)

/-- ITS FALSE NEIGHBOUR: 'it returns false'. Refute it at one input. -/
def fnExactMarksOfWrong : ChangeSpec := { name := "fnExactMarksOf", fn := fun _ => fun
  | [d1, d2, d3] => { results := [.lit (.bool false)], args := [d1, d2, d3] }
  | _ => none }
def FnExactMarksOfWrongFalsely : Prop := fnExactMarksOfRow.holds Try.pinned (OpenSpec.ofChange fnExactMarksOfWrong)

/-- 'laws.FnExactPointOf': WHATEVER THE INPUT: true; the input reads as it did. -/
def fnExactPointOfSpec : ChangeSpec := { name := "fnExactPointOf", fn := fun _ => fun
  | [d1, d2] => { results := [.lit (.bool true)], args := [d1, d2] }
  | _ => none }
def fnExactPointOfRow : OpenClaim := { program := "ytfkbifoojmnhcaa", sum := "541bf667b1b28cb197e4ddeb5cd53f9585266d80d69a6e0dfc75692b70d1d6e4", func := "loop.example/g00951/laws.FnExactPointOf", spec := "fnExactPointOf", unfollowed := true, recurses := true, apart := false }
def FnExactPointOfSaid : Prop := fnExactPointOfRow.holds Try.pinned (OpenSpec.ofChange fnExactPointOfSpec)

/-- ITS FALSE NEIGHBOUR: 'it returns false'. Refute it at one input. -/
def fnExactPointOfWrong : ChangeSpec := { name := "fnExactPointOf", fn := fun _ => fun
  | [d1, d2] => { results := [.lit (.bool false)], args := [d1, d2] }
  | _ => none }
def FnExactPointOfWrongFalsely : Prop := fnExactPointOfRow.holds Try.pinned (OpenSpec.ofChange fnExactPointOfWrong)

/-- 'laws.FnExactMayBeAt': WHATEVER THE INPUT: true; the input reads as it did. -/
def fnExactMayBeAtSpec : ChangeSpec := { name := "fnExactMayBeAt", fn := fun _ => fun
  | [d1, d2, d3, d4, d5] => { results := [.lit (.bool true)], args := [d1, d2, d3, d4, d5] }
  | _ => none }
def fnExactMayBeAtRow : OpenClaim := { program := "ytfkbifoojmnhcaa", sum := "541bf667b1b28cb197e4ddeb5cd53f9585266d80d69a6e0dfc75692b70d1d6e4", func := "loop.example/g00951/laws.FnExactMayBeAt", spec := "fnExactMayBeAt", unfollowed := true, recurses := true, apart := false }
def FnExactMayBeAtSaid : Prop := fnExactMayBeAtRow.holds Try.pinned (OpenSpec.ofChange fnExactMayBeAtSpec)

/-- ITS FALSE NEIGHBOUR: 'it returns false'. Refute it at one input. -/
def fnExactMayBeAtWrong : ChangeSpec := { name := "fnExactMayBeAt", fn := fun _ => fun
  | [d1, d2, d3, d4, d5] => { results := [.lit (.bool false)], args := [d1, d2, d3, d4, d5] }
  | _ => none }
def FnExactMayBeAtWrongFalsely : Prop := fnExactMayBeAtRow.holds Try.pinned (OpenSpec.ofChange fnExactMayBeAtWrong)

/-- 'laws.FnExactFirstReading': WHATEVER THE INPUT: true; the input reads as it did. -/
def fnExactFirstReadingSpec : ChangeSpec := { name := "fnExactFirstReading", fn := fun _ => fun
  | [d1, d2, d3, d4] => { results := [.lit (.bool true)], args := [d1, d2, d3, d4] }
  | _ => none }
def fnExactFirstReadingRow : OpenClaim := { program := "ytfkbifoojmnhcaa", sum := "541bf667b1b28cb197e4ddeb5cd53f9585266d80d69a6e0dfc75692b70d1d6e4", func := "loop.example/g00951/laws.FnExactFirstReading", spec := "fnExactFirstReading", unfollowed := true, recurses := true, apart := false }
def FnExactFirstReadingSaid : Prop := fnExactFirstReadingRow.holds Try.pinned (OpenSpec.ofChange fnExactFirstReadingSpec)

/-- ITS FALSE NEIGHBOUR: 'it returns false'. Refute it at one input. -/
def fnExactFirstReadingWrong : ChangeSpec := { name := "fnExactFirstReading", fn := fun _ => fun
  | [d1, d2, d3, d4] => { results := [.lit (.bool false)], args := [d1, d2, d3, d4] }
  | _ => none }
def FnExactFirstReadingWrongFalsely : Prop := fnExactFirstReadingRow.holds Try.pinned (OpenSpec.ofChange fnExactFirstReadingWrong)

/-- 'laws.FnExactLastReading': WHATEVER THE INPUT: true; the input reads as it did. -/
def fnExactLastReadingSpec : ChangeSpec := { name := "fnExactLastReading", fn := fun _ => fun
  | [d1, d2, d3, d4] => { results := [.lit (.bool true)], args := [d1, d2, d3, d4] }
  | _ => none }
def fnExactLastReadingRow : OpenClaim := { program := "ytfkbifoojmnhcaa", sum := "541bf667b1b28cb197e4ddeb5cd53f9585266d80d69a6e0dfc75692b70d1d6e4", func := "loop.example/g00951/laws.FnExactLastReading", spec := "fnExactLastReading", unfollowed := true, recurses := true, apart := false }
def FnExactLastReadingSaid : Prop := fnExactLastReadingRow.holds Try.pinned (OpenSpec.ofChange fnExactLastReadingSpec)

/-- ITS FALSE NEIGHBOUR: 'it returns false'. Refute it at one input. -/
def fnExactLastReadingWrong : ChangeSpec := { name := "fnExactLastReading", fn := fun _ => fun
  | [d1, d2, d3, d4] => { results := [.lit (.bool false)], args := [d1, d2, d3, d4] }
  | _ => none }
def FnExactLastReadingWrongFalsely : Prop := fnExactLastReadingRow.holds Try.pinned (OpenSpec.ofChange fnExactLastReadingWrong)

/-- 'laws.FnExactNeededLength': WHATEVER THE INPUT: true; the input reads as it did. -/
def fnExactNeededLengthSpec : ChangeSpec := { name := "fnExactNeededLength", fn := fun _ => fun
  | [d1, d2, d3, d4] => { results := [.lit (.bool true)], args := [d1, d2, d3, d4] }
  | _ => none }
def fnExactNeededLengthRow : OpenClaim := { program := "ytfkbifoojmnhcaa", sum := "541bf667b1b28cb197e4ddeb5cd53f9585266d80d69a6e0dfc75692b70d1d6e4", func := "loop.example/g00951/laws.FnExactNeededLength", spec := "fnExactNeededLength", unfollowed := true, recurses := true, apart := false }
def FnExactNeededLengthSaid : Prop := fnExactNeededLengthRow.holds Try.pinned (OpenSpec.ofChange fnExactNeededLengthSpec)

/-- ITS FALSE NEIGHBOUR: 'it returns false'. Refute it at one input. -/
def fnExactNeededLengthWrong : ChangeSpec := { name := "fnExactNeededLength", fn := fun _ => fun
  | [d1, d2, d3, d4] => { results := [.lit (.bool false)], args := [d1, d2, d3, d4] }
  | _ => none }
def FnExactNeededLengthWrongFalsely : Prop := fnExactNeededLengthRow.holds Try.pinned (OpenSpec.ofChange fnExactNeededLengthWrong)

/-- 'laws.FnExactFinestStep': WHATEVER THE INPUT: true; the input reads as it did. -/
def fnExactFinestStepSpec : ChangeSpec := { name := "fnExactFinestStep", fn := fun _ => fun
  | [d1, d2, d3, d4, d5] => { results := [.lit (.bool true)], args := [d1, d2, d3, d4, d5] }
  | _ => none }
def fnExactFinestStepRow : OpenClaim := { program := "ytfkbifoojmnhcaa", sum := "541bf667b1b28cb197e4ddeb5cd53f9585266d80d69a6e0dfc75692b70d1d6e4", func := "loop.example/g00951/laws.FnExactFinestStep", spec := "fnExactFinestStep", unfollowed := true, recurses := true, apart := false }
def FnExactFinestStepSaid : Prop := fnExactFinestStepRow.holds Try.pinned (OpenSpec.ofChange fnExactFinestStepSpec)

/-- ITS FALSE NEIGHBOUR: 'it returns false'. Refute it at one input. -/
def fnExactFinestStepWrong : ChangeSpec := { name := "fnExactFinestStep", fn := fun _ => fun
  | [d1, d2, d3, d4, d5] => { results := [.lit (.bool false)], args := [d1, d2, d3, d4, d5] }
  | _ => none }
def FnExactFinestStepWrongFalsely : Prop := fnExactFinestStepRow.holds Try.pinned (OpenSpec.ofChange fnExactFinestStepWrong)

/-- 'laws.FnExactLeastDistance': WHATEVER THE INPUT: true; the input reads as it did. -/
def fnExactLeastDistanceSpec : ChangeSpec := { name := "fnExactLeastDistance", fn := fun _ => fun
  | [d1, d2, d3] => { results := [.lit (.bool true)], args := [d1, d2, d3] }
  | _ => none }
def fnExactLeastDistanceRow : OpenClaim := { program := "ytfkbifoojmnhcaa", sum := "541bf667b1b28cb197e4ddeb5cd53f9585266d80d69a6e0dfc75692b70d1d6e4", func := "loop.example/g00951/laws.FnExactLeastDistance", spec := "fnExactLeastDistance", unfollowed := true, recurses := true, apart := false }
def FnExactLeastDistanceSaid : Prop := fnExactLeastDistanceRow.holds Try.pinned (OpenSpec.ofChange fnExactLeastDistanceSpec)

/-- ITS FALSE NEIGHBOUR: 'it returns false'. Refute it at one input. -/
def fnExactLeastDistanceWrong : ChangeSpec := { name := "fnExactLeastDistance", fn := fun _ => fun
  | [d1, d2, d3] => { results := [.lit (.bool false)], args := [d1, d2, d3] }
  | _ => none }
def FnExactLeastDistanceWrongFalsely : Prop := fnExactLeastDistanceRow.holds Try.pinned (OpenSpec.ofChange fnExactLeastDistanceWrong)

/- THE SECOND FORM. 'bulk': how many values and letters a reading holds, each counted each time it is reached (what is shared counts as often as it is met; a slice's spare places count too). A statement '..UptoSaid' is the law's where the arguments, and the package variables that the reading takes, are together of bulk at most 1048576: NARROWER than '..Said'. Prove '..Said' where nothing that the law and all that it calls make is longer than what came in: it says more and counts as full. Else prove '..UptoSaid'. A law counts once. -/
mutual
def uptoBulk {H : Type} : DataW H → Nat
  | .lit (.string bytes) => bytes.length + 1
  | .lit _ => 1
  | .nil => 1
  | .ptr d => uptoBulk d + 1
  | .slice elems spare => uptoBulkAll elems + uptoBulkAll spare + 1
  | .agg parts => uptoBulkAll parts + 1
  | .iface _ d => uptoBulk d + 1
  | .map entries => uptoBulkEntries entries + 1
  | .held _ => 1
def uptoBulkAll {H : Type} : List (DataW H) → Nat
  | [] => 0
  | d :: r => uptoBulk d + uptoBulkAll r
def uptoBulkEntries {H : Type} : List (Lit × DataW H) → Nat
  | [] => 0
  | x :: r => uptoBulkEntry x + uptoBulkEntries r
def uptoBulkEntry {H : Type} : Lit × DataW H → Nat
  | (.string bytes, d) => bytes.length + uptoBulk d + 1
  | (_, d) => uptoBulk d + 1
 end
def uptoSmall : (H : Type) → List (DataW H) → Bool := fun _ ds => decide (uptoBulkAll ds ≤ 1048576)
def OpenSpec.upto (s : _root_.Go.ChangeSpec) : _root_.Go.OpenSpec := { _root_.Go.OpenSpec.ofChange s with cond := some uptoSmall }

/-- 'laws.FnExactNearestMark', WHERE WHAT IT READS IS OF BULK AT MOST 1048576: true; the input reads as it did. -/
def fnExactNearestMarkUptoRow : OpenClaim := { program := "ytfkbifoojmnhcaa", sum := "541bf667b1b28cb197e4ddeb5cd53f9585266d80d69a6e0dfc75692b70d1d6e4", func := "loop.example/g00951/laws.FnExactNearestMark", spec := "fnExactNearestMark", apart := false, narrowed := true }
def FnExactNearestMarkUptoSaid : Prop := fnExactNearestMarkUptoRow.holds Try.pinned (OpenSpec.upto fnExactNearestMarkSpec)

/-- 'laws.FnExactHasScale', WHERE WHAT IT READS IS OF BULK AT MOST 1048576: true; the input reads as it did. -/
def fnExactHasScaleUptoRow : OpenClaim := { program := "ytfkbifoojmnhcaa", sum := "541bf667b1b28cb197e4ddeb5cd53f9585266d80d69a6e0dfc75692b70d1d6e4", func := "loop.example/g00951/laws.FnExactHasScale", spec := "fnExactHasScale", apart := false, narrowed := true }
def FnExactHasScaleUptoSaid : Prop := fnExactHasScaleUptoRow.holds Try.pinned (OpenSpec.upto fnExactHasScaleSpec)

/-- 'laws.FnExactWorstDigits', WHERE WHAT IT READS IS OF BULK AT MOST 1048576: true; the input reads as it did. -/
def fnExactWorstDigitsUptoRow : OpenClaim := { program := "ytfkbifoojmnhcaa", sum := "541bf667b1b28cb197e4ddeb5cd53f9585266d80d69a6e0dfc75692b70d1d6e4", func := "loop.example/g00951/laws.FnExactWorstDigits", spec := "fnExactWorstDigits", apart := false, narrowed := true }
def FnExactWorstDigitsUptoSaid : Prop := fnExactWorstDigitsUptoRow.holds Try.pinned (OpenSpec.upto fnExactWorstDigitsSpec)

/-- 'laws.FnExactCountHeights', WHERE WHAT IT READS IS OF BULK AT MOST 1048576: true; the input reads as it did. -/
def fnExactCountHeightsUptoRow : OpenClaim := { program := "ytfkbifoojmnhcaa", sum := "541bf667b1b28cb197e4ddeb5cd53f9585266d80d69a6e0dfc75692b70d1d6e4", func := "loop.example/g00951/laws.FnExactCountHeights", spec := "fnExactCountHeights", apart := false, narrowed := true }
def FnExactCountHeightsUptoSaid : Prop := fnExactCountHeightsUptoRow.holds Try.pinned (OpenSpec.upto fnExactCountHeightsSpec)

/-- 'laws.FnExactMarksOf', WHERE WHAT IT READS IS OF BULK AT MOST 1048576: true; the input reads as it did. -/
def fnExactMarksOfUptoRow : OpenClaim := { program := "ytfkbifoojmnhcaa", sum := "541bf667b1b28cb197e4ddeb5cd53f9585266d80d69a6e0dfc75692b70d1d6e4", func := "loop.example/g00951/laws.FnExactMarksOf", spec := "fnExactMarksOf", unfollowed := true, recurses := true, apart := false, narrowed := true }
def FnExactMarksOfUptoSaid : Prop := fnExactMarksOfUptoRow.holds Try.pinned (OpenSpec.upto fnExactMarksOfSpec)

/-- 'laws.FnExactPointOf', WHERE WHAT IT READS IS OF BULK AT MOST 1048576: true; the input reads as it did. -/
def fnExactPointOfUptoRow : OpenClaim := { program := "ytfkbifoojmnhcaa", sum := "541bf667b1b28cb197e4ddeb5cd53f9585266d80d69a6e0dfc75692b70d1d6e4", func := "loop.example/g00951/laws.FnExactPointOf", spec := "fnExactPointOf", unfollowed := true, recurses := true, apart := false, narrowed := true }
def FnExactPointOfUptoSaid : Prop := fnExactPointOfUptoRow.holds Try.pinned (OpenSpec.upto fnExactPointOfSpec)

/-- 'laws.FnExactMayBeAt', WHERE WHAT IT READS IS OF BULK AT MOST 1048576: true; the input reads as it did. -/
def fnExactMayBeAtUptoRow : OpenClaim := { program := "ytfkbifoojmnhcaa", sum := "541bf667b1b28cb197e4ddeb5cd53f9585266d80d69a6e0dfc75692b70d1d6e4", func := "loop.example/g00951/laws.FnExactMayBeAt", spec := "fnExactMayBeAt", unfollowed := true, recurses := true, apart := false, narrowed := true }
def FnExactMayBeAtUptoSaid : Prop := fnExactMayBeAtUptoRow.holds Try.pinned (OpenSpec.upto fnExactMayBeAtSpec)

/-- 'laws.FnExactFirstReading', WHERE WHAT IT READS IS OF BULK AT MOST 1048576: true; the input reads as it did. -/
def fnExactFirstReadingUptoRow : OpenClaim := { program := "ytfkbifoojmnhcaa", sum := "541bf667b1b28cb197e4ddeb5cd53f9585266d80d69a6e0dfc75692b70d1d6e4", func := "loop.example/g00951/laws.FnExactFirstReading", spec := "fnExactFirstReading", unfollowed := true, recurses := true, apart := false, narrowed := true }
def FnExactFirstReadingUptoSaid : Prop := fnExactFirstReadingUptoRow.holds Try.pinned (OpenSpec.upto fnExactFirstReadingSpec)

/-- 'laws.FnExactLastReading', WHERE WHAT IT READS IS OF BULK AT MOST 1048576: true; the input reads as it did. -/
def fnExactLastReadingUptoRow : OpenClaim := { program := "ytfkbifoojmnhcaa", sum := "541bf667b1b28cb197e4ddeb5cd53f9585266d80d69a6e0dfc75692b70d1d6e4", func := "loop.example/g00951/laws.FnExactLastReading", spec := "fnExactLastReading", unfollowed := true, recurses := true, apart := false, narrowed := true }
def FnExactLastReadingUptoSaid : Prop := fnExactLastReadingUptoRow.holds Try.pinned (OpenSpec.upto fnExactLastReadingSpec)

/-- 'laws.FnExactNeededLength', WHERE WHAT IT READS IS OF BULK AT MOST 1048576: true; the input reads as it did. -/
def fnExactNeededLengthUptoRow : OpenClaim := { program := "ytfkbifoojmnhcaa", sum := "541bf667b1b28cb197e4ddeb5cd53f9585266d80d69a6e0dfc75692b70d1d6e4", func := "loop.example/g00951/laws.FnExactNeededLength", spec := "fnExactNeededLength", unfollowed := true, recurses := true, apart := false, narrowed := true }
def FnExactNeededLengthUptoSaid : Prop := fnExactNeededLengthUptoRow.holds Try.pinned (OpenSpec.upto fnExactNeededLengthSpec)

/-- 'laws.FnExactFinestStep', WHERE WHAT IT READS IS OF BULK AT MOST 1048576: true; the input reads as it did. -/
def fnExactFinestStepUptoRow : OpenClaim := { program := "ytfkbifoojmnhcaa", sum := "541bf667b1b28cb197e4ddeb5cd53f9585266d80d69a6e0dfc75692b70d1d6e4", func := "loop.example/g00951/laws.FnExactFinestStep", spec := "fnExactFinestStep", unfollowed := true, recurses := true, apart := false, narrowed := true }
def FnExactFinestStepUptoSaid : Prop := fnExactFinestStepUptoRow.holds Try.pinned (OpenSpec.upto fnExactFinestStepSpec)

/-- 'laws.FnExactLeastDistance', WHERE WHAT IT READS IS OF BULK AT MOST 1048576: true; the input reads as it did. -/
def fnExactLeastDistanceUptoRow : OpenClaim := { program := "ytfkbifoojmnhcaa", sum := "541bf667b1b28cb197e4ddeb5cd53f9585266d80d69a6e0dfc75692b70d1d6e4", func := "loop.example/g00951/laws.FnExactLeastDistance", spec := "fnExactLeastDistance", unfollowed := true, recurses := true, apart := false, narrowed := true }
def FnExactLeastDistanceUptoSaid : Prop := fnExactLeastDistanceUptoRow.holds Try.pinned (OpenSpec.upto fnExactLeastDistanceSpec)

end Rows
end Go.Proofs.Ytfkbifoojmnhcaa
