/-
  No cell of these rows narrows 'for every input' (looked for: loops, veiled, ifaces, maps, wideKeys, modest, calm, conditions, laid).
  DERIVED. THE GIVEN ROWS OF THIS SEAT. 12 by the template 'for every input the law returns true; each argument reads behind the call as it read before'; 0 by the template 'total and deterministic' (their statements: YtffnepoeglahmaaTotals.lean).
  GIVEN WITH THE SEED: the statements are not yours to turn. If you find one false, say at which input.
  Laid BY PROGRAM, IN A SANDBOX (cutbox-rows.mjs): the forced cells as the released guide's own fill.sh prints them over the translation 496147704423d29d… (all of the seat's roots in one cut). By AI agents, Wed Nov 11 2026. No macro, syntax, notation, axiom, sorry.
-/
import Derived.Test.YtffnepoeglahmaaChecked
import GoSem.Claim
import GoSem.ClaimJoined
import GoSem.ClaimMapViews
import Derived.JoinedTies
import Derived.KernelRfl
namespace Go.Proofs.Ytffnepoeglahmaa
/- THE CELL 'sum', in the pinned program and in every row, IS THE sha256 OF THE DUMP (.gsa) THAT YtffnepoeglahmaaProg.lean LOADS. Nothing in Lean hashes anything: it is a label: what it is worth is what the hold of that sum in a sandbox is worth. -/
noncomputable def Try.pinned : Pinned := { name := "ytffnepoeglahmaa", sum := "496147704423d29d783a474b202102421d0e16689b5d5140fd5dc2712cc9cc5d", checked := Try.checked }
namespace Rows
def none {H : Type} : Left H := { results := [], args := [] }

/-- 'laws.FnExactTotalError': WHATEVER THE INPUT: true; the input reads as it did. -/
def fnExactTotalErrorSpec : ChangeSpec := { name := "fnExactTotalError", fn := fun _ => fun
  | [d] => { results := [.lit (.bool true)], args := [d] }
  | _ => none }
def fnExactTotalErrorRow : OpenClaim := { program := "ytffnepoeglahmaa", sum := "496147704423d29d783a474b202102421d0e16689b5d5140fd5dc2712cc9cc5d", func := "loop.example/g00951/laws.FnExactTotalError", spec := "fnExactTotalError", apart := false }
def FnExactTotalErrorSaid : Prop := fnExactTotalErrorRow.holds Try.pinned (OpenSpec.ofChange fnExactTotalErrorSpec)

/-- ITS FALSE NEIGHBOUR: 'it returns false'. Refute it at one input. -/
def fnExactTotalErrorWrong : ChangeSpec := { name := "fnExactTotalError", fn := fun _ => fun
  | [d] => { results := [.lit (.bool false)], args := [d] }
  | _ => none }
def FnExactTotalErrorWrongFalsely : Prop := fnExactTotalErrorRow.holds Try.pinned (OpenSpec.ofChange fnExactTotalErrorWrong)

/-- 'laws.FnExactTickHeight': WHATEVER THE INPUT: true; the input reads as it did. -/
def fnExactTickHeightSpec : ChangeSpec := { name := "fnExactTickHeight", fn := fun _ => fun
  | [d] => { results := [.lit (.bool true)], args := [d] }
  | _ => none }
def fnExactTickHeightRow : OpenClaim := { program := "ytffnepoeglahmaa", sum := "496147704423d29d783a474b202102421d0e16689b5d5140fd5dc2712cc9cc5d", func := "loop.example/g00951/laws.FnExactTickHeight", spec := "fnExactTickHeight", apart := false }
def FnExactTickHeightSaid : Prop := fnExactTickHeightRow.holds Try.pinned (OpenSpec.ofChange fnExactTickHeightSpec)

/-- ITS FALSE NEIGHBOUR: 'it returns false'. Refute it at one input. -/
def fnExactTickHeightWrong : ChangeSpec := { name := "fnExactTickHeight", fn := fun _ => fun
  | [d] => { results := [.lit (.bool false)], args := [d] }
  | _ => none }
def FnExactTickHeightWrongFalsely : Prop := fnExactTickHeightRow.holds Try.pinned (OpenSpec.ofChange fnExactTickHeightWrong)

/-- 'laws.FnExactScaleErrors': WHATEVER THE INPUT: true; the input reads as it did. -/
def fnExactScaleErrorsSpec : ChangeSpec := { name := "fnExactScaleErrors", fn := fun _ => fun
  | [d1, d2, d3] => { results := [.lit (.bool true)], args := [d1, d2, d3] }
  | _ => none }
def fnExactScaleErrorsRow : OpenClaim := { program := "ytffnepoeglahmaa", sum := "496147704423d29d783a474b202102421d0e16689b5d5140fd5dc2712cc9cc5d", func := "loop.example/g00951/laws.FnExactScaleErrors", spec := "fnExactScaleErrors", apart := false }
def FnExactScaleErrorsSaid : Prop := fnExactScaleErrorsRow.holds Try.pinned (OpenSpec.ofChange fnExactScaleErrorsSpec)

/-- ITS FALSE NEIGHBOUR: 'it returns false'. Refute it at one input. -/
def fnExactScaleErrorsWrong : ChangeSpec := { name := "fnExactScaleErrors", fn := fun _ => fun
  | [d1, d2, d3] => { results := [.lit (.bool false)], args := [d1, d2, d3] }
  | _ => none }
def FnExactScaleErrorsWrongFalsely : Prop := fnExactScaleErrorsRow.holds Try.pinned (OpenSpec.ofChange fnExactScaleErrorsWrong)

/-- 'laws.FnExactIsGraduation': WHATEVER THE INPUT: true; the input reads as it did. -/
def fnExactIsGraduationSpec : ChangeSpec := { name := "fnExactIsGraduation", fn := fun _ => fun
  | [d] => { results := [.lit (.bool true)], args := [d] }
  | _ => none }
def fnExactIsGraduationRow : OpenClaim := { program := "ytffnepoeglahmaa", sum := "496147704423d29d783a474b202102421d0e16689b5d5140fd5dc2712cc9cc5d", func := "loop.example/g00951/laws.FnExactIsGraduation", spec := "fnExactIsGraduation", apart := false }
def FnExactIsGraduationSaid : Prop := fnExactIsGraduationRow.holds Try.pinned (OpenSpec.ofChange fnExactIsGraduationSpec)

/-- ITS FALSE NEIGHBOUR: 'it returns false'. Refute it at one input. -/
def fnExactIsGraduationWrong : ChangeSpec := { name := "fnExactIsGraduation", fn := fun _ => fun
  | [d] => { results := [.lit (.bool false)], args := [d] }
  | _ => none }
def FnExactIsGraduationWrongFalsely : Prop := fnExactIsGraduationRow.holds Try.pinned (OpenSpec.ofChange fnExactIsGraduationWrong)

/-- 'laws.FnExactErrorUnits': WHATEVER THE INPUT: true; the input reads as it did. -/
def fnExactErrorUnitsSpec : ChangeSpec := { name := "fnExactErrorUnits", fn := fun _ => fun
  | [d1, d2, d3] => { results := [.lit (.bool true)], args := [d1, d2, d3] }
  | _ => none }
def fnExactErrorUnitsRow : OpenClaim := { program := "ytffnepoeglahmaa", sum := "496147704423d29d783a474b202102421d0e16689b5d5140fd5dc2712cc9cc5d", func := "loop.example/g00951/laws.FnExactErrorUnits", spec := "fnExactErrorUnits", apart := false }
def FnExactErrorUnitsSaid : Prop := fnExactErrorUnitsRow.holds Try.pinned (OpenSpec.ofChange fnExactErrorUnitsSpec)

/-- ITS FALSE NEIGHBOUR: 'it returns false'. Refute it at one input. -/
def fnExactErrorUnitsWrong : ChangeSpec := { name := "fnExactErrorUnits", fn := fun _ => fun
  | [d1, d2, d3] => { results := [.lit (.bool false)], args := [d1, d2, d3] }
  | _ => none }
def FnExactErrorUnitsWrongFalsely : Prop := fnExactErrorUnitsRow.holds Try.pinned (OpenSpec.ofChange fnExactErrorUnitsWrong)

/-- 'laws.FnExactLengthFor': WHATEVER THE INPUT: true; the input reads as it did. -/
def fnExactLengthForSpec : ChangeSpec := { name := "fnExactLengthFor", fn := fun _ => fun
  | [d1, d2, d3] => { results := [.lit (.bool true)], args := [d1, d2, d3] }
  | _ => none }
def fnExactLengthForRow : OpenClaim := { program := "ytffnepoeglahmaa", sum := "496147704423d29d783a474b202102421d0e16689b5d5140fd5dc2712cc9cc5d", func := "loop.example/g00951/laws.FnExactLengthFor", spec := "fnExactLengthFor", apart := false }
def FnExactLengthForSaid : Prop := fnExactLengthForRow.holds Try.pinned (OpenSpec.ofChange fnExactLengthForSpec)

/-- ITS FALSE NEIGHBOUR: 'it returns false'. Refute it at one input. -/
def fnExactLengthForWrong : ChangeSpec := { name := "fnExactLengthFor", fn := fun _ => fun
  | [d1, d2, d3] => { results := [.lit (.bool false)], args := [d1, d2, d3] }
  | _ => none }
def FnExactLengthForWrongFalsely : Prop := fnExactLengthForRow.holds Try.pinned (OpenSpec.ofChange fnExactLengthForWrong)

/-- 'laws.FnExactCountMarks': WHATEVER THE INPUT: true; the input reads as it did. -/
def fnExactCountMarksSpec : ChangeSpec := { name := "fnExactCountMarks", fn := fun _ => fun
  | [d] => { results := [.lit (.bool true)], args := [d] }
  | _ => none }
def fnExactCountMarksRow : OpenClaim := { program := "ytffnepoeglahmaa", sum := "496147704423d29d783a474b202102421d0e16689b5d5140fd5dc2712cc9cc5d", func := "loop.example/g00951/laws.FnExactCountMarks", spec := "fnExactCountMarks", apart := false }
def FnExactCountMarksSaid : Prop := fnExactCountMarksRow.holds Try.pinned (OpenSpec.ofChange fnExactCountMarksSpec)

/-- ITS FALSE NEIGHBOUR: 'it returns false'. Refute it at one input. -/
def fnExactCountMarksWrong : ChangeSpec := { name := "fnExactCountMarks", fn := fun _ => fun
  | [d] => { results := [.lit (.bool false)], args := [d] }
  | _ => none }
def FnExactCountMarksWrongFalsely : Prop := fnExactCountMarksRow.holds Try.pinned (OpenSpec.ofChange fnExactCountMarksWrong)

/-- 'laws.FnExactTicksBetween': WHATEVER THE INPUT: true; the input reads as it did. -/
def fnExactTicksBetweenSpec : ChangeSpec := { name := "fnExactTicksBetween", fn := fun _ => fun
  | [d1, d2, d3] => { results := [.lit (.bool true)], args := [d1, d2, d3] }
  | _ => none }
def fnExactTicksBetweenRow : OpenClaim := { program := "ytffnepoeglahmaa", sum := "496147704423d29d783a474b202102421d0e16689b5d5140fd5dc2712cc9cc5d", func := "loop.example/g00951/laws.FnExactTicksBetween", spec := "fnExactTicksBetween", apart := false }
def FnExactTicksBetweenSaid : Prop := fnExactTicksBetweenRow.holds Try.pinned (OpenSpec.ofChange fnExactTicksBetweenSpec)

/-- ITS FALSE NEIGHBOUR: 'it returns false'. Refute it at one input. -/
def fnExactTicksBetweenWrong : ChangeSpec := { name := "fnExactTicksBetween", fn := fun _ => fun
  | [d1, d2, d3] => { results := [.lit (.bool false)], args := [d1, d2, d3] }
  | _ => none }
def FnExactTicksBetweenWrongFalsely : Prop := fnExactTicksBetweenRow.holds Try.pinned (OpenSpec.ofChange fnExactTicksBetweenWrong)

/-- 'laws.FnExactIsRule': WHATEVER THE INPUT: true; the input reads as it did. -/
def fnExactIsRuleSpec : ChangeSpec := { name := "fnExactIsRule", fn := fun _ => fun
  | [d] => { results := [.lit (.bool true)], args := [d] }
  | _ => none }
def fnExactIsRuleRow : OpenClaim := { program := "ytffnepoeglahmaa", sum := "496147704423d29d783a474b202102421d0e16689b5d5140fd5dc2712cc9cc5d", func := "loop.example/g00951/laws.FnExactIsRule", spec := "fnExactIsRule", apart := false }
def FnExactIsRuleSaid : Prop := fnExactIsRuleRow.holds Try.pinned (OpenSpec.ofChange fnExactIsRuleSpec)

/-- ITS FALSE NEIGHBOUR: 'it returns false'. Refute it at one input. -/
def fnExactIsRuleWrong : ChangeSpec := { name := "fnExactIsRule", fn := fun _ => fun
  | [d] => { results := [.lit (.bool false)], args := [d] }
  | _ => none }
def FnExactIsRuleWrongFalsely : Prop := fnExactIsRuleRow.holds Try.pinned (OpenSpec.ofChange fnExactIsRuleWrong)

/-- 'laws.FnExactNearestTick': WHATEVER THE INPUT: true; the input reads as it did. -/
def fnExactNearestTickSpec : ChangeSpec := { name := "fnExactNearestTick", fn := fun _ => fun
  | [d1, d2] => { results := [.lit (.bool true)], args := [d1, d2] }
  | _ => none }
def fnExactNearestTickRow : OpenClaim := { program := "ytffnepoeglahmaa", sum := "496147704423d29d783a474b202102421d0e16689b5d5140fd5dc2712cc9cc5d", func := "loop.example/g00951/laws.FnExactNearestTick", spec := "fnExactNearestTick", apart := false }
def FnExactNearestTickSaid : Prop := fnExactNearestTickRow.holds Try.pinned (OpenSpec.ofChange fnExactNearestTickSpec)

/-- ITS FALSE NEIGHBOUR: 'it returns false'. Refute it at one input. -/
def fnExactNearestTickWrong : ChangeSpec := { name := "fnExactNearestTick", fn := fun _ => fun
  | [d1, d2] => { results := [.lit (.bool false)], args := [d1, d2] }
  | _ => none }
def FnExactNearestTickWrongFalsely : Prop := fnExactNearestTickRow.holds Try.pinned (OpenSpec.ofChange fnExactNearestTickWrong)

/-- 'laws.FnExactIsMark': WHATEVER THE INPUT: true; the input reads as it did. -/
def fnExactIsMarkSpec : ChangeSpec := { name := "fnExactIsMark", fn := fun _ => fun
  | [d1, d2] => { results := [.lit (.bool true)], args := [d1, d2] }
  | _ => none }
def fnExactIsMarkRow : OpenClaim := { program := "ytffnepoeglahmaa", sum := "496147704423d29d783a474b202102421d0e16689b5d5140fd5dc2712cc9cc5d", func := "loop.example/g00951/laws.FnExactIsMark", spec := "fnExactIsMark", apart := false }
def FnExactIsMarkSaid : Prop := fnExactIsMarkRow.holds Try.pinned (OpenSpec.ofChange fnExactIsMarkSpec)

/-- ITS FALSE NEIGHBOUR: 'it returns false'. Refute it at one input. -/
def fnExactIsMarkWrong : ChangeSpec := { name := "fnExactIsMark", fn := fun _ => fun
  | [d1, d2] => { results := [.lit (.bool false)], args := [d1, d2] }
  | _ => none }
def FnExactIsMarkWrongFalsely : Prop := fnExactIsMarkRow.holds Try.pinned (OpenSpec.ofChange fnExactIsMarkWrong)

/-- 'laws.FnExactClosestTicks': WHATEVER THE INPUT: true; the input reads as it did. -/
def fnExactClosestTicksSpec : ChangeSpec := { name := "fnExactClosestTicks", fn := fun _ => fun
  | [d] => { results := [.lit (.bool true)], args := [d] }
  | _ => none }
def fnExactClosestTicksRow : OpenClaim := { program := "ytffnepoeglahmaa", sum := "496147704423d29d783a474b202102421d0e16689b5d5140fd5dc2712cc9cc5d", func := "loop.example/g00951/laws.FnExactClosestTicks", spec := "fnExactClosestTicks", apart := false }
def FnExactClosestTicksSaid : Prop := fnExactClosestTicksRow.holds Try.pinned (OpenSpec.ofChange fnExactClosestTicksSpec)

/-- ITS FALSE NEIGHBOUR: 'it returns false'. Refute it at one input. -/
def fnExactClosestTicksWrong : ChangeSpec := { name := "fnExactClosestTicks", fn := fun _ => fun
  | [d] => { results := [.lit (.bool false)], args := [d] }
  | _ => none }
def FnExactClosestTicksWrongFalsely : Prop := fnExactClosestTicksRow.holds Try.pinned (OpenSpec.ofChange fnExactClosestTicksWrong)

/- THE SECOND FORM. 'bulk': how many values and letters a reading holds, each counted each time it is reached (what is shared counts as often as it is met; a slice's spare places count too). A statement '..UptoSaid' is the law's where the arguments, and the package variables that the reading takes, are together of bulk at most 1048576: NARROWER than '..Said'. Prove '..Said' where nothing that the law and all that it calls make is longer than what came in: it says more and counts as full. Else prove '..UptoSaid'. A law counts once. -/
mutual
def uptoBulk {H : Type} : DataW H → Nat
  | .lit (.string bytes) => bytes.length + 1
  | .lit _ => 1
  | .nil => 1
  | .ptr d => uptoBulk d + 1
  | .slice elems spare => uptoBulkAll elems + uptoBulkAll spare + 1
  | .agg parts => uptoBulkAll parts + 1
  | .iface _ d => uptoBulk d + 1
  | .map entries => uptoBulkEntries entries + 1
  | .held _ => 1
def uptoBulkAll {H : Type} : List (DataW H) → Nat
  | [] => 0
  | d :: r => uptoBulk d + uptoBulkAll r
def uptoBulkEntries {H : Type} : List (Lit × DataW H) → Nat
  | [] => 0
  | x :: r => uptoBulkEntry x + uptoBulkEntries r
def uptoBulkEntry {H : Type} : Lit × DataW H → Nat
  | (.string bytes, d) => bytes.length + uptoBulk d + 1
  | (_, d) => uptoBulk d + 1
 end
def uptoSmall : (H : Type) → List (DataW H) → Bool := fun _ ds => decide (uptoBulkAll ds ≤ 1048576)
def OpenSpec.upto (s : _root_.Go.ChangeSpec) : _root_.Go.OpenSpec := { _root_.Go.OpenSpec.ofChange s with cond := some uptoSmall }

/-- 'laws.FnExactTotalError', WHERE WHAT IT READS IS OF BULK AT MOST 1048576: true; the input reads as it did. -/
def fnExactTotalErrorUptoRow : OpenClaim := { program := "ytffnepoeglahmaa", sum := "496147704423d29d783a474b202102421d0e16689b5d5140fd5dc2712cc9cc5d", func := "loop.example/g00951/laws.FnExactTotalError", spec := "fnExactTotalError", apart := false, narrowed := true }
def FnExactTotalErrorUptoSaid : Prop := fnExactTotalErrorUptoRow.holds Try.pinned (OpenSpec.upto fnExactTotalErrorSpec)

/-- 'laws.FnExactTickHeight', WHERE WHAT IT READS IS OF BULK AT MOST 1048576: true; the input reads as it did. -/
def fnExactTickHeightUptoRow : OpenClaim := { program := "ytffnepoeglahmaa", sum := "496147704423d29d783a474b202102421d0e16689b5d5140fd5dc2712cc9cc5d", func := "loop.example/g00951/laws.FnExactTickHeight", spec := "fnExactTickHeight", apart := false, narrowed := true }
def FnExactTickHeightUptoSaid : Prop := fnExactTickHeightUptoRow.holds Try.pinned (OpenSpec.upto fnExactTickHeightSpec)

/-- 'laws.FnExactScaleErrors', WHERE WHAT IT READS IS OF BULK AT MOST 1048576: true; the input reads as it did. -/
def fnExactScaleErrorsUptoRow : OpenClaim := { program := "ytffnepoeglahmaa", sum := "496147704423d29d783a474b202102421d0e16689b5d5140fd5dc2712cc9cc5d", func := "loop.example/g00951/laws.FnExactScaleErrors", spec := "fnExactScaleErrors", apart := false, narrowed := true }
def FnExactScaleErrorsUptoSaid : Prop := fnExactScaleErrorsUptoRow.holds Try.pinned (OpenSpec.upto fnExactScaleErrorsSpec)

/-- 'laws.FnExactIsGraduation', WHERE WHAT IT READS IS OF BULK AT MOST 1048576: true; the input reads as it did. -/
def fnExactIsGraduationUptoRow : OpenClaim := { program := "ytffnepoeglahmaa", sum := "496147704423d29d783a474b202102421d0e16689b5d5140fd5dc2712cc9cc5d", func := "loop.example/g00951/laws.FnExactIsGraduation", spec := "fnExactIsGraduation", apart := false, narrowed := true }
def FnExactIsGraduationUptoSaid : Prop := fnExactIsGraduationUptoRow.holds Try.pinned (OpenSpec.upto fnExactIsGraduationSpec)

/-- 'laws.FnExactErrorUnits', WHERE WHAT IT READS IS OF BULK AT MOST 1048576: true; the input reads as it did. -/
def fnExactErrorUnitsUptoRow : OpenClaim := { program := "ytffnepoeglahmaa", sum := "496147704423d29d783a474b202102421d0e16689b5d5140fd5dc2712cc9cc5d", func := "loop.example/g00951/laws.FnExactErrorUnits", spec := "fnExactErrorUnits", apart := false, narrowed := true }
def FnExactErrorUnitsUptoSaid : Prop := fnExactErrorUnitsUptoRow.holds Try.pinned (OpenSpec.upto fnExactErrorUnitsSpec)

/-- 'laws.FnExactLengthFor', WHERE WHAT IT READS IS OF BULK AT MOST 1048576: true; the input reads as it did. -/
def fnExactLengthForUptoRow : OpenClaim := { program := "ytffnepoeglahmaa", sum := "496147704423d29d783a474b202102421d0e16689b5d5140fd5dc2712cc9cc5d", func := "loop.example/g00951/laws.FnExactLengthFor", spec := "fnExactLengthFor", apart := false, narrowed := true }
def FnExactLengthForUptoSaid : Prop := fnExactLengthForUptoRow.holds Try.pinned (OpenSpec.upto fnExactLengthForSpec)

/-- 'laws.FnExactCountMarks', WHERE WHAT IT READS IS OF BULK AT MOST 1048576: true; the input reads as it did. -/
def fnExactCountMarksUptoRow : OpenClaim := { program := "ytffnepoeglahmaa", sum := "496147704423d29d783a474b202102421d0e16689b5d5140fd5dc2712cc9cc5d", func := "loop.example/g00951/laws.FnExactCountMarks", spec := "fnExactCountMarks", apart := false, narrowed := true }
def FnExactCountMarksUptoSaid : Prop := fnExactCountMarksUptoRow.holds Try.pinned (OpenSpec.upto fnExactCountMarksSpec)

/-- 'laws.FnExactTicksBetween', WHERE WHAT IT READS IS OF BULK AT MOST 1048576: true; the input reads as it did. -/
def fnExactTicksBetweenUptoRow : OpenClaim := { program := "ytffnepoeglahmaa", sum := "496147704423d29d783a474b202102421d0e16689b5d5140fd5dc2712cc9cc5d", func := "loop.example/g00951/laws.FnExactTicksBetween", spec := "fnExactTicksBetween", apart := false, narrowed := true }
def FnExactTicksBetweenUptoSaid : Prop := fnExactTicksBetweenUptoRow.holds Try.pinned (OpenSpec.upto fnExactTicksBetweenSpec)

/-- 'laws.FnExactIsRule', WHERE WHAT IT READS IS OF BULK AT MOST 1048576: true; the input reads as it did. -/
def fnExactIsRuleUptoRow : OpenClaim := { program := "ytffnepoeglahmaa", sum := "496147704423d29d783a474b202102421d0e16689b5d5140fd5dc2712cc9cc5d", func := "loop.example/g00951/laws.FnExactIsRule", spec := "fnExactIsRule", apart := false, narrowed := true }
def FnExactIsRuleUptoSaid : Prop := fnExactIsRuleUptoRow.holds Try.pinned (OpenSpec.upto fnExactIsRuleSpec)

/-- 'laws.FnExactNearestTick', WHERE WHAT IT READS IS OF BULK AT MOST 1048576: true; the input reads as it did. -/
def fnExactNearestTickUptoRow : OpenClaim := { program := "ytffnepoeglahmaa", sum := "496147704423d29d783a474b202102421d0e16689b5d5140fd5dc2712cc9cc5d", func := "loop.example/g00951/laws.FnExactNearestTick", spec := "fnExactNearestTick", apart := false, narrowed := true }
def FnExactNearestTickUptoSaid : Prop := fnExactNearestTickUptoRow.holds Try.pinned (OpenSpec.upto fnExactNearestTickSpec)

/-- 'laws.FnExactIsMark', WHERE WHAT IT READS IS OF BULK AT MOST 1048576: true; the input reads as it did. -/
def fnExactIsMarkUptoRow : OpenClaim := { program := "ytffnepoeglahmaa", sum := "496147704423d29d783a474b202102421d0e16689b5d5140fd5dc2712cc9cc5d", func := "loop.example/g00951/laws.FnExactIsMark", spec := "fnExactIsMark", apart := false, narrowed := true }
def FnExactIsMarkUptoSaid : Prop := fnExactIsMarkUptoRow.holds Try.pinned (OpenSpec.upto fnExactIsMarkSpec)

/-- 'laws.FnExactClosestTicks', WHERE WHAT IT READS IS OF BULK AT MOST 1048576: true; the input reads as it did. -/
def fnExactClosestTicksUptoRow : OpenClaim := { program := "ytffnepoeglahmaa", sum := "496147704423d29d783a474b202102421d0e16689b5d5140fd5dc2712cc9cc5d", func := "loop.example/g00951/laws.FnExactClosestTicks", spec := "fnExactClosestTicks", apart := false, narrowed := true }
def FnExactClosestTicksUptoSaid : Prop := fnExactClosestTicksUptoRow.holds Try.pinned (OpenSpec.upto fnExactClosestTicksSpec)

end Rows
end Go.Proofs.Ytffnepoeglahmaa
