/-
  No cell of these rows narrows 'for every input' (looked for: loops, veiled, ifaces, maps, wideKeys, modest, calm, conditions, laid).
  DERIVED. THE GIVEN ROWS OF THIS SEAT. 5 by the template 'for every input the law returns true; each argument reads behind the call as it read before'; 0 by the template 'total and deterministic' (their statements: YthnjiiodpjielaaTotals.lean).
  GIVEN WITH THE SEED: the statements are not yours to turn. If you find one false, say at which input.
  Laid BY PROGRAM, IN A SANDBOX (cutbox-rows.mjs): the forced cells as the released guide's own fill.sh prints them over the translation 7ba16cff56126d59… (all of the seat's roots in one cut). By AI agents, Wed Nov 11 2026. No macro, syntax, notation, axiom, sorry.
-/
import Derived.Test.YthnjiiodpjielaaChecked
import GoSem.Claim
import GoSem.ClaimJoined
import GoSem.ClaimMapViews
import Derived.JoinedTies
import Derived.KernelRfl
namespace Go.Proofs.Ythnjiiodpjielaa
/- THE CELL 'sum', in the pinned program and in every row, IS THE sha256 OF THE DUMP (.gsa) THAT YthnjiiodpjielaaProg.lean LOADS. Nothing in Lean hashes anything: it is a label: what it is worth is what the hold of that sum in a sandbox is worth. -/
noncomputable def Try.pinned : Pinned := { name := "ythnjiiodpjielaa", sum := "7ba16cff56126d599aa0d5c5d52ee1465b12e9b1234988c3969a6203173f46fa", checked := Try.checked }
namespace Rows
def none {H : Type} : Left H := { results := [], args := [] }

/-- 'laws.FnChosen': WHATEVER THE INPUT: true; the input reads as it did. -/
def fnChosenSpec : ChangeSpec := { name := "fnChosen", fn := fun _ => fun
  | [d] => { results := [.lit (.bool true)], args := [d] }
  | _ => none }
def fnChosenRow : OpenClaim := { program := "ythnjiiodpjielaa", sum := "7ba16cff56126d599aa0d5c5d52ee1465b12e9b1234988c3969a6203173f46fa", func := "loop.example/g00951/laws.FnChosen", spec := "fnChosen", unfollowed := true, recurses := true, apart := false }
def FnChosenSaid : Prop := fnChosenRow.holds Try.pinned (OpenSpec.ofChange fnChosenSpec)

/-- ITS FALSE NEIGHBOUR: 'it returns false'. Refute it at one input. -/
def fnChosenWrong : ChangeSpec := { name := "fnChosen", fn := fun _ => fun
  | [d] => { results := [.lit (.bool false)], args := [d] }
  | _ => none }
def FnChosenWrongFalsely : Prop := fnChosenRow.holds Try.pinned (OpenSpec.ofChange fnChosenWrong)

/-- 'laws.FnReadings': WHATEVER THE INPUT: true; the input reads as it did. -/
def fnReadingsSpec : ChangeSpec := { name := "fnReadings", fn := fun _ => fun
  | [d] => { results := [.lit (.bool true)], args := [d] }
  | _ => none }
def fnReadingsRow : OpenClaim := { program := "ythnjiiodpjielaa", sum := "7ba16cff56126d599aa0d5c5d52ee1465b12e9b1234988c3969a6203173f46fa", func := "loop.example/g00951/laws.FnReadings", spec := "fnReadings", unfollowed := true, recurses := true, apart := false }
def FnReadingsSaid : Prop := fnReadingsRow.holds Try.pinned (OpenSpec.ofChange fnReadingsSpec)

/-- ITS FALSE NEIGHBOUR: 'it returns false'. Refute it at one input. -/
def fnReadingsWrong : ChangeSpec := { name := "fnReadings", fn := fun _ => fun
  | [d] => { results := [.lit (.bool false)], args := [d] }
  | _ => none }
def FnReadingsWrongFalsely : Prop := fnReadingsRow.holds Try.pinned (OpenSpec.ofChange fnReadingsWrong)

/-- 'laws.FnBestReadings': WHATEVER THE INPUT: true; the input reads as it did. -/
def fnBestReadingsSpec : ChangeSpec := { name := "fnBestReadings", fn := fun _ => fun
  | [d] => { results := [.lit (.bool true)], args := [d] }
  | _ => none }
def fnBestReadingsRow : OpenClaim := { program := "ythnjiiodpjielaa", sum := "7ba16cff56126d599aa0d5c5d52ee1465b12e9b1234988c3969a6203173f46fa", func := "loop.example/g00951/laws.FnBestReadings", spec := "fnBestReadings", unfollowed := true, recurses := true, apart := false }
def FnBestReadingsSaid : Prop := fnBestReadingsRow.holds Try.pinned (OpenSpec.ofChange fnBestReadingsSpec)

/-- ITS FALSE NEIGHBOUR: 'it returns false'. Refute it at one input. -/
def fnBestReadingsWrong : ChangeSpec := { name := "fnBestReadings", fn := fun _ => fun
  | [d] => { results := [.lit (.bool false)], args := [d] }
  | _ => none }
def FnBestReadingsWrongFalsely : Prop := fnBestReadingsRow.holds Try.pinned (OpenSpec.ofChange fnBestReadingsWrong)

/-- 'laws.FnReadingBounds': WHATEVER THE INPUT: true; the input reads as it did. -/
def fnReadingBoundsSpec : ChangeSpec := { name := "fnReadingBounds", fn := fun _ => fun
  | [d] => { results := [.lit (.bool true)], args := [d] }
  | _ => none }
def fnReadingBoundsRow : OpenClaim := { program := "ythnjiiodpjielaa", sum := "7ba16cff56126d599aa0d5c5d52ee1465b12e9b1234988c3969a6203173f46fa", func := "loop.example/g00951/laws.FnReadingBounds", spec := "fnReadingBounds", unfollowed := true, recurses := true, apart := false }
def FnReadingBoundsSaid : Prop := fnReadingBoundsRow.holds Try.pinned (OpenSpec.ofChange fnReadingBoundsSpec)

/-- ITS FALSE NEIGHBOUR: 'it returns false'. Refute it at one input. -/
def fnReadingBoundsWrong : ChangeSpec := { name := "fnReadingBounds", fn := fun _ => fun
  | [d] => { results := [.lit (.bool false)], args := [d] }
  | _ => none }
def FnReadingBoundsWrongFalsely : Prop := fnReadingBoundsRow.holds Try.pinned (OpenSpec.ofChange fnReadingBoundsWrong)

/-- 'laws.FnExactReadStock': WHATEVER THE INPUT: true; the input reads as it did. -/
def fnExactReadStockSpec : ChangeSpec := { name := "fnExactReadStock", fn := fun _ => fun
  | [d1, d2, d3] => { results := [.lit (.bool true)], args := [d1, d2, d3] }
  | _ => none }
def fnExactReadStockRow : OpenClaim := { program := "ythnjiiodpjielaa", sum := "7ba16cff56126d599aa0d5c5d52ee1465b12e9b1234988c3969a6203173f46fa", func := "loop.example/g00951/laws.FnExactReadStock", spec := "fnExactReadStock", unfollowed := true, recurses := true, apart := false }
def FnExactReadStockSaid : Prop := fnExactReadStockRow.holds Try.pinned (OpenSpec.ofChange fnExactReadStockSpec)

/-- ITS FALSE NEIGHBOUR: 'it returns false'. Refute it at one input. -/
def fnExactReadStockWrong : ChangeSpec := { name := "fnExactReadStock", fn := fun _ => fun
  | [d1, d2, d3] => { results := [.lit (.bool false)], args := [d1, d2, d3] }
  | _ => none }
def FnExactReadStockWrongFalsely : Prop := fnExactReadStockRow.holds Try.pinned (OpenSpec.ofChange fnExactReadStockWrong)

/- THE SECOND FORM. 'bulk': how many values and letters a reading holds, each counted each time it is reached (what is shared counts as often as it is met; a slice's spare places count too). A statement '..UptoSaid' is the law's where the arguments, and the package variables that the reading takes, are together of bulk at most 1048576: NARROWER than '..Said'. Prove '..Said' where nothing that the law and all that it calls make is longer than what came in: it says more and counts as full. Else prove '..UptoSaid'. A law counts once. -/
mutual
def uptoBulk {H : Type} : DataW H → Nat
  | .lit (.string bytes) => bytes.length + 1
  | .lit _ => 1
  | .nil => 1
  | .ptr d => uptoBulk d + 1
  | .slice elems spare => uptoBulkAll elems + uptoBulkAll spare + 1
  | .agg parts => uptoBulkAll parts + 1
  | .iface _ d => uptoBulk d + 1
  | .map entries => uptoBulkEntries entries + 1
  | .held _ => 1
def uptoBulkAll {H : Type} : List (DataW H) → Nat
  | [] => 0
  | d :: r => uptoBulk d + uptoBulkAll r
def uptoBulkEntries {H : Type} : List (Lit × DataW H) → Nat
  | [] => 0
  | x :: r => uptoBulkEntry x + uptoBulkEntries r
def uptoBulkEntry {H : Type} : Lit × DataW H → Nat
  | (.string bytes, d) => bytes.length + uptoBulk d + 1
  | (_, d) => uptoBulk d + 1
 end
def uptoSmall : (H : Type) → List (DataW H) → Bool := fun _ ds => decide (uptoBulkAll ds ≤ 1048576)
def OpenSpec.upto (s : _root_.Go.ChangeSpec) : _root_.Go.OpenSpec := { _root_.Go.OpenSpec.ofChange s with cond := some uptoSmall }

/-- 'laws.FnChosen', WHERE WHAT IT READS IS OF BULK AT MOST 1048576: true; the input reads as it did. -/
def fnChosenUptoRow : OpenClaim := { program := "ythnjiiodpjielaa", sum := "7ba16cff56126d599aa0d5c5d52ee1465b12e9b1234988c3969a6203173f46fa", func := "loop.example/g00951/laws.FnChosen", spec := "fnChosen", unfollowed := true, recurses := true, apart := false, narrowed := true }
def FnChosenUptoSaid : Prop := fnChosenUptoRow.holds Try.pinned (OpenSpec.upto fnChosenSpec)

/-- 'laws.FnReadings', WHERE WHAT IT READS IS OF BULK AT MOST 1048576: true; the input reads as it did. -/
def fnReadingsUptoRow : OpenClaim := { program := "ythnjiiodpjielaa", sum := "7ba16cff56126d599aa0d5c5d52ee1465b12e9b1234988c3969a6203173f46fa", func := "loop.example/g00951/laws.FnReadings", spec := "fnReadings", unfollowed := true, recurses := true, apart := false, narrowed := true }
def FnReadingsUptoSaid : Prop := fnReadingsUptoRow.holds Try.pinned (OpenSpec.upto fnReadingsSpec)

/-- 'laws.FnBestReadings', WHERE WHAT IT READS IS OF BULK AT MOST 1048576: true; the input reads as it did. -/
def fnBestReadingsUptoRow : OpenClaim := { program := "ythnjiiodpjielaa", sum := "7ba16cff56126d599aa0d5c5d52ee1465b12e9b1234988c3969a6203173f46fa", func := "loop.example/g00951/laws.FnBestReadings", spec := "fnBestReadings", unfollowed := true, recurses := true, apart := false, narrowed := true }
def FnBestReadingsUptoSaid : Prop := fnBestReadingsUptoRow.holds Try.pinned (OpenSpec.upto fnBestReadingsSpec)

/-- 'laws.FnReadingBounds', WHERE WHAT IT READS IS OF BULK AT MOST 1048576: true; the input reads as it did. -/
def fnReadingBoundsUptoRow : OpenClaim := { program := "ythnjiiodpjielaa", sum := "7ba16cff56126d599aa0d5c5d52ee1465b12e9b1234988c3969a6203173f46fa", func := "loop.example/g00951/laws.FnReadingBounds", spec := "fnReadingBounds", unfollowed := true, recurses := true, apart := false, narrowed := true }
def FnReadingBoundsUptoSaid : Prop := fnReadingBoundsUptoRow.holds Try.pinned (OpenSpec.upto fnReadingBoundsSpec)

/-- 'laws.FnExactReadStock', WHERE WHAT IT READS IS OF BULK AT MOST 1048576: true; the input reads as it did. -/
def fnExactReadStockUptoRow : OpenClaim := { program := "ythnjiiodpjielaa", sum := "7ba16cff56126d599aa0d5c5d52ee1465b12e9b1234988c3969a6203173f46fa", func := "loop.example/g00951/laws.FnExactReadStock", spec := "fnExactReadStock", unfollowed := true, recurses := true, apart := false, narrowed := true }
def FnExactReadStockUptoSaid : Prop := fnExactReadStockUptoRow.holds Try.pinned (OpenSpec.upto fnExactReadStockSpec)

end Rows
end Go.Proofs.Ythnjiiodpjielaa
