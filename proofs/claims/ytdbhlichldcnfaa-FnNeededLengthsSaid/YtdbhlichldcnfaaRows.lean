/-
  No cell of these rows narrows 'for every input' (looked for: loops, veiled, ifaces, maps, wideKeys, modest, calm, conditions, laid).
  DERIVED. THE GIVEN ROWS OF THIS SEAT. 5 by the template 'for every input the law returns true; each argument reads behind the call as it read before'; 0 by the template 'total and deterministic' (their statements: YtdbhlichldcnfaaTotals.lean).
  GIVEN WITH THE SEED: the statements are not yours to turn. If you find one false, say at which input.
  Laid BY PROGRAM, IN A SANDBOX (cutbox-rows.mjs): the forced cells as the released guide's own fill.sh prints them over the translation d8f2249eabd58767… (all of the seat's roots in one cut). By AI agents, Wed Nov 11 2026. No macro, syntax, notation, axiom, sorry.
-/
import Derived.Test.YtdbhlichldcnfaaChecked
import GoSem.Claim
import GoSem.ClaimJoined
import GoSem.ClaimMapViews
import Derived.JoinedTies
import Derived.KernelRfl
namespace Go.Proofs.Ytdbhlichldcnfaa
/- THE CELL 'sum', in the pinned program and in every row, IS THE sha256 OF THE DUMP (.gsa) THAT YtdbhlichldcnfaaProg.lean LOADS. Nothing in Lean hashes anything: it is a label: what it is worth is what the hold of that sum in a sandbox is worth. -/
noncomputable def Try.pinned : Pinned := { name := "ytdbhlichldcnfaa", sum := "d8f2249eabd58767f09f3aa469d94339e1534aef684c5fcaca4894e96e7b27f2", checked := Try.checked }
namespace Rows
def none {H : Type} : Left H := { results := [], args := [] }

/-- 'laws.FnErrors': WHATEVER THE INPUT: true; the input reads as it did. -/
def fnErrorsSpec : ChangeSpec := { name := "fnErrors", fn := fun _ => fun
  | [d] => { results := [.lit (.bool true)], args := [d] }
  | _ => none }
def fnErrorsRow : OpenClaim := { program := "ytdbhlichldcnfaa", sum := "d8f2249eabd58767f09f3aa469d94339e1534aef684c5fcaca4894e96e7b27f2", func := "loop.example/g00951/laws.FnErrors", spec := "fnErrors", apart := false }
def FnErrorsSaid : Prop := fnErrorsRow.holds Try.pinned (OpenSpec.ofChange fnErrorsSpec)

/-- ITS FALSE NEIGHBOUR: 'it returns false'. Refute it at one input. -/
def fnErrorsWrong : ChangeSpec := { name := "fnErrors", fn := fun _ => fun
  | [d] => { results := [.lit (.bool false)], args := [d] }
  | _ => none }
def FnErrorsWrongFalsely : Prop := fnErrorsRow.holds Try.pinned (OpenSpec.ofChange fnErrorsWrong)

/-- 'laws.FnExactNeededLength': WHATEVER THE INPUT: true; the input reads as it did. -/
def fnExactNeededLengthSpec : ChangeSpec := { name := "fnExactNeededLength", fn := fun _ => fun
  | [d1, d2, d3, d4] => { results := [.lit (.bool true)], args := [d1, d2, d3, d4] }
  | _ => none }
def fnExactNeededLengthRow : OpenClaim := { program := "ytdbhlichldcnfaa", sum := "d8f2249eabd58767f09f3aa469d94339e1534aef684c5fcaca4894e96e7b27f2", func := "loop.example/g00951/laws.FnExactNeededLength", spec := "fnExactNeededLength", unfollowed := true, recurses := true, apart := false }
def FnExactNeededLengthSaid : Prop := fnExactNeededLengthRow.holds Try.pinned (OpenSpec.ofChange fnExactNeededLengthSpec)

/-- ITS FALSE NEIGHBOUR: 'it returns false'. Refute it at one input. -/
def fnExactNeededLengthWrong : ChangeSpec := { name := "fnExactNeededLength", fn := fun _ => fun
  | [d1, d2, d3, d4] => { results := [.lit (.bool false)], args := [d1, d2, d3, d4] }
  | _ => none }
def FnExactNeededLengthWrongFalsely : Prop := fnExactNeededLengthRow.holds Try.pinned (OpenSpec.ofChange fnExactNeededLengthWrong)

/-- 'laws.FnMarks': WHATEVER THE INPUT: true; the input reads as it did. -/
def fnMarksSpec : ChangeSpec := { name := "fnMarks", fn := fun _ => fun
  | [d] => { results := [.lit (.bool true)], args := [d] }
  | _ => none }
def fnMarksRow : OpenClaim := { program := "ytdbhlichldcnfaa", sum := "d8f2249eabd58767f09f3aa469d94339e1534aef684c5fcaca4894e96e7b27f2", func := "loop.example/g00951/laws.FnMarks", spec := "fnMarks", unfollowed := true, recurses := true, apart := false }
def FnMarksSaid : Prop := fnMarksRow.holds Try.pinned (OpenSpec.ofChange fnMarksSpec)

/-- ITS FALSE NEIGHBOUR: 'it returns false'. Refute it at one input. -/
def fnMarksWrong : ChangeSpec := { name := "fnMarks", fn := fun _ => fun
  | [d] => { results := [.lit (.bool false)], args := [d] }
  | _ => none }
def FnMarksWrongFalsely : Prop := fnMarksRow.holds Try.pinned (OpenSpec.ofChange fnMarksWrong)

/-- 'laws.FnNearTicks': WHATEVER THE INPUT: true; the input reads as it did. -/
def fnNearTicksSpec : ChangeSpec := { name := "fnNearTicks", fn := fun _ => fun
  | [d] => { results := [.lit (.bool true)], args := [d] }
  | _ => none }
def fnNearTicksRow : OpenClaim := { program := "ytdbhlichldcnfaa", sum := "d8f2249eabd58767f09f3aa469d94339e1534aef684c5fcaca4894e96e7b27f2", func := "loop.example/g00951/laws.FnNearTicks", spec := "fnNearTicks", apart := false }
def FnNearTicksSaid : Prop := fnNearTicksRow.holds Try.pinned (OpenSpec.ofChange fnNearTicksSpec)

/-- ITS FALSE NEIGHBOUR: 'it returns false'. Refute it at one input. -/
def fnNearTicksWrong : ChangeSpec := { name := "fnNearTicks", fn := fun _ => fun
  | [d] => { results := [.lit (.bool false)], args := [d] }
  | _ => none }
def FnNearTicksWrongFalsely : Prop := fnNearTicksRow.holds Try.pinned (OpenSpec.ofChange fnNearTicksWrong)

/-- 'laws.FnNeededLengths': WHATEVER THE INPUT: true; the input reads as it did. -/
def fnNeededLengthsSpec : ChangeSpec := { name := "fnNeededLengths", fn := fun _ => fun
  | [d] => { results := [.lit (.bool true)], args := [d] }
  | _ => none }
def fnNeededLengthsRow : OpenClaim := { program := "ytdbhlichldcnfaa", sum := "d8f2249eabd58767f09f3aa469d94339e1534aef684c5fcaca4894e96e7b27f2", func := "loop.example/g00951/laws.FnNeededLengths", spec := "fnNeededLengths", unfollowed := true, recurses := true, apart := false }
def FnNeededLengthsSaid : Prop := fnNeededLengthsRow.holds Try.pinned (OpenSpec.ofChange fnNeededLengthsSpec)

/-- ITS FALSE NEIGHBOUR: 'it returns false'. Refute it at one input. -/
def fnNeededLengthsWrong : ChangeSpec := { name := "fnNeededLengths", fn := fun _ => fun
  | [d] => { results := [.lit (.bool false)], args := [d] }
  | _ => none }
def FnNeededLengthsWrongFalsely : Prop := fnNeededLengthsRow.holds Try.pinned (OpenSpec.ofChange fnNeededLengthsWrong)

/- THE SECOND FORM. 'bulk': how many values and letters a reading holds, each counted each time it is reached (what is shared counts as often as it is met; a slice's spare places count too). A statement '..UptoSaid' is the law's where the arguments, and the package variables that the reading takes, are together of bulk at most 1048576: NARROWER than '..Said'. Prove '..Said' where nothing that the law and all that it calls make is longer than what came in: it says more and counts as full. Else prove '..UptoSaid'. A law counts once. -/
mutual
def uptoBulk {H : Type} : DataW H → Nat
  | .lit (.string bytes) => bytes.length + 1
  | .lit _ => 1
  | .nil => 1
  | .ptr d => uptoBulk d + 1
  | .slice elems spare => uptoBulkAll elems + uptoBulkAll spare + 1
  | .agg parts => uptoBulkAll parts + 1
  | .iface _ d => uptoBulk d + 1
  | .map entries => uptoBulkEntries entries + 1
  | .held _ => 1
def uptoBulkAll {H : Type} : List (DataW H) → Nat
  | [] => 0
  | d :: r => uptoBulk d + uptoBulkAll r
def uptoBulkEntries {H : Type} : List (Lit × DataW H) → Nat
  | [] => 0
  | x :: r => uptoBulkEntry x + uptoBulkEntries r
def uptoBulkEntry {H : Type} : Lit × DataW H → Nat
  | (.string bytes, d) => bytes.length + uptoBulk d + 1
  | (_, d) => uptoBulk d + 1
 end
def uptoSmall : (H : Type) → List (DataW H) → Bool := fun _ ds => decide (uptoBulkAll ds ≤ 1048576)
def OpenSpec.upto (s : _root_.Go.ChangeSpec) : _root_.Go.OpenSpec := { _root_.Go.OpenSpec.ofChange s with cond := some uptoSmall }

/-- 'laws.FnErrors', WHERE WHAT IT READS IS OF BULK AT MOST 1048576: true; the input reads as it did. -/
def fnErrorsUptoRow : OpenClaim := { program := "ytdbhlichldcnfaa", sum := "d8f2249eabd58767f09f3aa469d94339e1534aef684c5fcaca4894e96e7b27f2", func := "loop.example/g00951/laws.FnErrors", spec := "fnErrors", apart := false, narrowed := true }
def FnErrorsUptoSaid : Prop := fnErrorsUptoRow.holds Try.pinned (OpenSpec.upto fnErrorsSpec)

/-- 'laws.FnExactNeededLength', WHERE WHAT IT READS IS OF BULK AT MOST 1048576: true; the input reads as it did. -/
def fnExactNeededLengthUptoRow : OpenClaim := { program := "ytdbhlichldcnfaa", sum := "d8f2249eabd58767f09f3aa469d94339e1534aef684c5fcaca4894e96e7b27f2", func := "loop.example/g00951/laws.FnExactNeededLength", spec := "fnExactNeededLength", unfollowed := true, recurses := true, apart := false, narrowed := true }
def FnExactNeededLengthUptoSaid : Prop := fnExactNeededLengthUptoRow.holds Try.pinned (OpenSpec.upto fnExactNeededLengthSpec)

/-- 'laws.FnMarks', WHERE WHAT IT READS IS OF BULK AT MOST 1048576: true; the input reads as it did. -/
def fnMarksUptoRow : OpenClaim := { program := "ytdbhlichldcnfaa", sum := "d8f2249eabd58767f09f3aa469d94339e1534aef684c5fcaca4894e96e7b27f2", func := "loop.example/g00951/laws.FnMarks", spec := "fnMarks", unfollowed := true, recurses := true, apart := false, narrowed := true }
def FnMarksUptoSaid : Prop := fnMarksUptoRow.holds Try.pinned (OpenSpec.upto fnMarksSpec)

/-- 'laws.FnNearTicks', WHERE WHAT IT READS IS OF BULK AT MOST 1048576: true; the input reads as it did. -/
def fnNearTicksUptoRow : OpenClaim := { program := "ytdbhlichldcnfaa", sum := "d8f2249eabd58767f09f3aa469d94339e1534aef684c5fcaca4894e96e7b27f2", func := "loop.example/g00951/laws.FnNearTicks", spec := "fnNearTicks", apart := false, narrowed := true }
def FnNearTicksUptoSaid : Prop := fnNearTicksUptoRow.holds Try.pinned (OpenSpec.upto fnNearTicksSpec)

/-- 'laws.FnNeededLengths', WHERE WHAT IT READS IS OF BULK AT MOST 1048576: true; the input reads as it did. -/
def fnNeededLengthsUptoRow : OpenClaim := { program := "ytdbhlichldcnfaa", sum := "d8f2249eabd58767f09f3aa469d94339e1534aef684c5fcaca4894e96e7b27f2", func := "loop.example/g00951/laws.FnNeededLengths", spec := "fnNeededLengths", unfollowed := true, recurses := true, apart := false, narrowed := true }
def FnNeededLengthsUptoSaid : Prop := fnNeededLengthsUptoRow.holds Try.pinned (OpenSpec.upto fnNeededLengthsSpec)

end Rows
end Go.Proofs.Ytdbhlichldcnfaa
