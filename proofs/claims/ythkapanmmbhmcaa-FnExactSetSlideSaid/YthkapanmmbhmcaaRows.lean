/-
  No cell of these rows narrows 'for every input' (looked for: loops, veiled, ifaces, maps, wideKeys, modest, calm, conditions, laid).
  DERIVED. THE GIVEN ROWS OF THIS SEAT. 7 by the template 'for every input the law returns true; each argument reads behind the call as it read before'; 0 by the template 'total and deterministic' (their statements: YthkapanmmbhmcaaTotals.lean).
  GIVEN WITH THE SEED: the statements are not yours to turn. If you find one false, say at which input.
  Laid BY PROGRAM, IN A SANDBOX (cutbox-rows.mjs): the forced cells as the released guide's own fill.sh prints them over the translation 4d2d09e4f1b5dbed… (all of the seat's roots in one cut). By AI agents, Wed Nov 11 2026. No macro, syntax, notation, axiom, sorry.
-/
import Derived.Test.YthkapanmmbhmcaaChecked
import GoSem.Claim
import GoSem.ClaimJoined
import GoSem.ClaimMapViews
import Derived.JoinedTies
import Derived.KernelRfl
namespace Go.Proofs.Ythkapanmmbhmcaa
/- THE CELL 'sum', in the pinned program and in every row, IS THE sha256 OF THE DUMP (.gsa) THAT YthkapanmmbhmcaaProg.lean LOADS. Nothing in Lean hashes anything: it is a label: what it is worth is what the hold of that sum in a sandbox is worth. -/
noncomputable def Try.pinned : Pinned := { name := "ythkapanmmbhmcaa", sum := "4d2d09e4f1b5dbed1fd0a1cf8a8695bbf033b7f2e0ce0075cd87ae3fa8789f86", checked := Try.checked }
namespace Rows
def none {H : Type} : Left H := { results := [], args := [] }

/-- 'laws.FnExactSpreadFigure': WHATEVER THE INPUT: true; the input reads as it did. -/
def fnExactSpreadFigureSpec : ChangeSpec := { name := "fnExactSpreadFigure", fn := fun _ => fun
  | [d1, d2] => { results := [.lit (.bool true)], args := [d1, d2] }
  | _ => none }
def fnExactSpreadFigureRow : OpenClaim := { program := "ythkapanmmbhmcaa", sum := "4d2d09e4f1b5dbed1fd0a1cf8a8695bbf033b7f2e0ce0075cd87ae3fa8789f86", func := "loop.example/g00951/laws.FnExactSpreadFigure", spec := "fnExactSpreadFigure", unfollowed := true, recurses := true, apart := false }
def FnExactSpreadFigureSaid : Prop := fnExactSpreadFigureRow.holds Try.pinned (OpenSpec.ofChange fnExactSpreadFigureSpec)

/-- ITS FALSE NEIGHBOUR: 'it returns false'. Refute it at one input. -/
def fnExactSpreadFigureWrong : ChangeSpec := { name := "fnExactSpreadFigure", fn := fun _ => fun
  | [d1, d2] => { results := [.lit (.bool false)], args := [d1, d2] }
  | _ => none }
def FnExactSpreadFigureWrongFalsely : Prop := fnExactSpreadFigureRow.holds Try.pinned (OpenSpec.ofChange fnExactSpreadFigureWrong)

/-- 'laws.FnExactReadError': WHATEVER THE INPUT: true; the input reads as it did. -/
def fnExactReadErrorSpec : ChangeSpec := { name := "fnExactReadError", fn := fun _ => fun
  | [d1, d2, d3, d4] => { results := [.lit (.bool true)], args := [d1, d2, d3, d4] }
  | _ => none }
def fnExactReadErrorRow : OpenClaim := { program := "ythkapanmmbhmcaa", sum := "4d2d09e4f1b5dbed1fd0a1cf8a8695bbf033b7f2e0ce0075cd87ae3fa8789f86", func := "loop.example/g00951/laws.FnExactReadError", spec := "fnExactReadError", unfollowed := true, recurses := true, apart := false }
def FnExactReadErrorSaid : Prop := fnExactReadErrorRow.holds Try.pinned (OpenSpec.ofChange fnExactReadErrorSpec)

/-- ITS FALSE NEIGHBOUR: 'it returns false'. Refute it at one input. -/
def fnExactReadErrorWrong : ChangeSpec := { name := "fnExactReadError", fn := fun _ => fun
  | [d1, d2, d3, d4] => { results := [.lit (.bool false)], args := [d1, d2, d3, d4] }
  | _ => none }
def FnExactReadErrorWrongFalsely : Prop := fnExactReadErrorRow.holds Try.pinned (OpenSpec.ofChange fnExactReadErrorWrong)

/-- 'laws.FnExactChooseGraduation': WHATEVER THE INPUT: true; the input reads as it did. -/
def fnExactChooseGraduationSpec : ChangeSpec := { name := "fnExactChooseGraduation", fn := fun _ => fun
  | [d1, d2, d3] => { results := [.lit (.bool true)], args := [d1, d2, d3] }
  | _ => none }
def fnExactChooseGraduationRow : OpenClaim := { program := "ythkapanmmbhmcaa", sum := "4d2d09e4f1b5dbed1fd0a1cf8a8695bbf033b7f2e0ce0075cd87ae3fa8789f86", func := "loop.example/g00951/laws.FnExactChooseGraduation", spec := "fnExactChooseGraduation", unfollowed := true, recurses := true, apart := false }
def FnExactChooseGraduationSaid : Prop := fnExactChooseGraduationRow.holds Try.pinned (OpenSpec.ofChange fnExactChooseGraduationSpec)

/-- ITS FALSE NEIGHBOUR: 'it returns false'. Refute it at one input. -/
def fnExactChooseGraduationWrong : ChangeSpec := { name := "fnExactChooseGraduation", fn := fun _ => fun
  | [d1, d2, d3] => { results := [.lit (.bool false)], args := [d1, d2, d3] }
  | _ => none }
def FnExactChooseGraduationWrongFalsely : Prop := fnExactChooseGraduationRow.holds Try.pinned (OpenSpec.ofChange fnExactChooseGraduationWrong)

/-- 'laws.FnExactSetSlide': WHATEVER THE INPUT: true; the input reads as it did. -/
def fnExactSetSlideSpec : ChangeSpec := { name := "fnExactSetSlide", fn := fun _ => fun
  | [d1, d2, d3, d4] => { results := [.lit (.bool true)], args := [d1, d2, d3, d4] }
  | _ => none }
def fnExactSetSlideRow : OpenClaim := { program := "ythkapanmmbhmcaa", sum := "4d2d09e4f1b5dbed1fd0a1cf8a8695bbf033b7f2e0ce0075cd87ae3fa8789f86", func := "loop.example/g00951/laws.FnExactSetSlide", spec := "fnExactSetSlide", unfollowed := true, recurses := true, apart := false }
def FnExactSetSlideSaid : Prop := fnExactSetSlideRow.holds Try.pinned (OpenSpec.ofChange fnExactSetSlideSpec)

/-- ITS FALSE NEIGHBOUR: 'it returns false'. Refute it at one input. -/
def fnExactSetSlideWrong : ChangeSpec := { name := "fnExactSetSlide", fn := fun _ => fun
  | [d1, d2, d3, d4] => { results := [.lit (.bool false)], args := [d1, d2, d3, d4] }
  | _ => none }
def FnExactSetSlideWrongFalsely : Prop := fnExactSetSlideRow.holds Try.pinned (OpenSpec.ofChange fnExactSetSlideWrong)

/-- 'laws.FnExactSetCursor': WHATEVER THE INPUT: true; the input reads as it did. -/
def fnExactSetCursorSpec : ChangeSpec := { name := "fnExactSetCursor", fn := fun _ => fun
  | [d1, d2, d3, d4, d5] => { results := [.lit (.bool true)], args := [d1, d2, d3, d4, d5] }
  | _ => none }
def fnExactSetCursorRow : OpenClaim := { program := "ythkapanmmbhmcaa", sum := "4d2d09e4f1b5dbed1fd0a1cf8a8695bbf033b7f2e0ce0075cd87ae3fa8789f86", func := "loop.example/g00951/laws.FnExactSetCursor", spec := "fnExactSetCursor", unfollowed := true, recurses := true, apart := false }
def FnExactSetCursorSaid : Prop := fnExactSetCursorRow.holds Try.pinned (OpenSpec.ofChange fnExactSetCursorSpec)

/-- ITS FALSE NEIGHBOUR: 'it returns false'. Refute it at one input. -/
def fnExactSetCursorWrong : ChangeSpec := { name := "fnExactSetCursor", fn := fun _ => fun
  | [d1, d2, d3, d4, d5] => { results := [.lit (.bool false)], args := [d1, d2, d3, d4, d5] }
  | _ => none }
def FnExactSetCursorWrongFalsely : Prop := fnExactSetCursorRow.holds Try.pinned (OpenSpec.ofChange fnExactSetCursorWrong)

/-- 'laws.FnExactReadingBound': WHATEVER THE INPUT: true; the input reads as it did. -/
def fnExactReadingBoundSpec : ChangeSpec := { name := "fnExactReadingBound", fn := fun _ => fun
  | [d1, d2, d3, d4] => { results := [.lit (.bool true)], args := [d1, d2, d3, d4] }
  | _ => none }
def fnExactReadingBoundRow : OpenClaim := { program := "ythkapanmmbhmcaa", sum := "4d2d09e4f1b5dbed1fd0a1cf8a8695bbf033b7f2e0ce0075cd87ae3fa8789f86", func := "loop.example/g00951/laws.FnExactReadingBound", spec := "fnExactReadingBound", unfollowed := true, recurses := true, apart := false }
def FnExactReadingBoundSaid : Prop := fnExactReadingBoundRow.holds Try.pinned (OpenSpec.ofChange fnExactReadingBoundSpec)

/-- ITS FALSE NEIGHBOUR: 'it returns false'. Refute it at one input. -/
def fnExactReadingBoundWrong : ChangeSpec := { name := "fnExactReadingBound", fn := fun _ => fun
  | [d1, d2, d3, d4] => { results := [.lit (.bool false)], args := [d1, d2, d3, d4] }
  | _ => none }
def FnExactReadingBoundWrongFalsely : Prop := fnExactReadingBoundRow.holds Try.pinned (OpenSpec.ofChange fnExactReadingBoundWrong)

/-- 'laws.FnExactReadStock': WHATEVER THE INPUT: true; the input reads as it did. -/
def fnExactReadStockSpec : ChangeSpec := { name := "fnExactReadStock", fn := fun _ => fun
  | [d1, d2, d3] => { results := [.lit (.bool true)], args := [d1, d2, d3] }
  | _ => none }
def fnExactReadStockRow : OpenClaim := { program := "ythkapanmmbhmcaa", sum := "4d2d09e4f1b5dbed1fd0a1cf8a8695bbf033b7f2e0ce0075cd87ae3fa8789f86", func := "loop.example/g00951/laws.FnExactReadStock", spec := "fnExactReadStock", unfollowed := true, recurses := true, apart := false }
def FnExactReadStockSaid : Prop := fnExactReadStockRow.holds Try.pinned (OpenSpec.ofChange fnExactReadStockSpec)

/-- ITS FALSE NEIGHBOUR: 'it returns false'. Refute it at one input. -/
def fnExactReadStockWrong : ChangeSpec := { name := "fnExactReadStock", fn := fun _ => fun
  | [d1, d2, d3] => { results := [.lit (.bool false)], args := [d1, d2, d3] }
  | _ => none }
def FnExactReadStockWrongFalsely : Prop := fnExactReadStockRow.holds Try.pinned (OpenSpec.ofChange fnExactReadStockWrong)

/- THE SECOND FORM. 'bulk': how many values and letters a reading holds, each counted each time it is reached (what is shared counts as often as it is met; a slice's spare places count too). A statement '..UptoSaid' is the law's where the arguments, and the package variables that the reading takes, are together of bulk at most 1048576: NARROWER than '..Said'. Prove '..Said' where nothing that the law and all that it calls make is longer than what came in: it says more and counts as full. Else prove '..UptoSaid'. A law counts once. -/
mutual
def uptoBulk {H : Type} : DataW H → Nat
  | .lit (.string bytes) => bytes.length + 1
  | .lit _ => 1
  | .nil => 1
  | .ptr d => uptoBulk d + 1
  | .slice elems spare => uptoBulkAll elems + uptoBulkAll spare + 1
  | .agg parts => uptoBulkAll parts + 1
  | .iface _ d => uptoBulk d + 1
  | .map entries => uptoBulkEntries entries + 1
  | .held _ => 1
def uptoBulkAll {H : Type} : List (DataW H) → Nat
  | [] => 0
  | d :: r => uptoBulk d + uptoBulkAll r
def uptoBulkEntries {H : Type} : List (Lit × DataW H) → Nat
  | [] => 0
  | x :: r => uptoBulkEntry x + uptoBulkEntries r
def uptoBulkEntry {H : Type} : Lit × DataW H → Nat
  | (.string bytes, d) => bytes.length + uptoBulk d + 1
  | (_, d) => uptoBulk d + 1
 end
def uptoSmall : (H : Type) → List (DataW H) → Bool := fun _ ds => decide (uptoBulkAll ds ≤ 1048576)
def OpenSpec.upto (s : _root_.Go.ChangeSpec) : _root_.Go.OpenSpec := { _root_.Go.OpenSpec.ofChange s with cond := some uptoSmall }

/-- 'laws.FnExactSpreadFigure', WHERE WHAT IT READS IS OF BULK AT MOST 1048576: true; the input reads as it did. -/
def fnExactSpreadFigureUptoRow : OpenClaim := { program := "ythkapanmmbhmcaa", sum := "4d2d09e4f1b5dbed1fd0a1cf8a8695bbf033b7f2e0ce0075cd87ae3fa8789f86", func := "loop.example/g00951/laws.FnExactSpreadFigure", spec := "fnExactSpreadFigure", unfollowed := true, recurses := true, apart := false, narrowed := true }
def FnExactSpreadFigureUptoSaid : Prop := fnExactSpreadFigureUptoRow.holds Try.pinned (OpenSpec.upto fnExactSpreadFigureSpec)

/-- 'laws.FnExactReadError', WHERE WHAT IT READS IS OF BULK AT MOST 1048576: true; the input reads as it did. -/
def fnExactReadErrorUptoRow : OpenClaim := { program := "ythkapanmmbhmcaa", sum := "4d2d09e4f1b5dbed1fd0a1cf8a8695bbf033b7f2e0ce0075cd87ae3fa8789f86", func := "loop.example/g00951/laws.FnExactReadError", spec := "fnExactReadError", unfollowed := true, recurses := true, apart := false, narrowed := true }
def FnExactReadErrorUptoSaid : Prop := fnExactReadErrorUptoRow.holds Try.pinned (OpenSpec.upto fnExactReadErrorSpec)

/-- 'laws.FnExactChooseGraduation', WHERE WHAT IT READS IS OF BULK AT MOST 1048576: true; the input reads as it did. -/
def fnExactChooseGraduationUptoRow : OpenClaim := { program := "ythkapanmmbhmcaa", sum := "4d2d09e4f1b5dbed1fd0a1cf8a8695bbf033b7f2e0ce0075cd87ae3fa8789f86", func := "loop.example/g00951/laws.FnExactChooseGraduation", spec := "fnExactChooseGraduation", unfollowed := true, recurses := true, apart := false, narrowed := true }
def FnExactChooseGraduationUptoSaid : Prop := fnExactChooseGraduationUptoRow.holds Try.pinned (OpenSpec.upto fnExactChooseGraduationSpec)

/-- 'laws.FnExactSetSlide', WHERE WHAT IT READS IS OF BULK AT MOST 1048576: true; the input reads as it did. -/
def fnExactSetSlideUptoRow : OpenClaim := { program := "ythkapanmmbhmcaa", sum := "4d2d09e4f1b5dbed1fd0a1cf8a8695bbf033b7f2e0ce0075cd87ae3fa8789f86", func := "loop.example/g00951/laws.FnExactSetSlide", spec := "fnExactSetSlide", unfollowed := true, recurses := true, apart := false, narrowed := true }
def FnExactSetSlideUptoSaid : Prop := fnExactSetSlideUptoRow.holds Try.pinned (OpenSpec.upto fnExactSetSlideSpec)

/-- 'laws.FnExactSetCursor', WHERE WHAT IT READS IS OF BULK AT MOST 1048576: true; the input reads as it did. -/
def fnExactSetCursorUptoRow : OpenClaim := { program := "ythkapanmmbhmcaa", sum := "4d2d09e4f1b5dbed1fd0a1cf8a8695bbf033b7f2e0ce0075cd87ae3fa8789f86", func := "loop.example/g00951/laws.FnExactSetCursor", spec := "fnExactSetCursor", unfollowed := true, recurses := true, apart := false, narrowed := true }
def FnExactSetCursorUptoSaid : Prop := fnExactSetCursorUptoRow.holds Try.pinned (OpenSpec.upto fnExactSetCursorSpec)

/-- 'laws.FnExactReadingBound', WHERE WHAT IT READS IS OF BULK AT MOST 1048576: true; the input reads as it did. -/
def fnExactReadingBoundUptoRow : OpenClaim := { program := "ythkapanmmbhmcaa", sum := "4d2d09e4f1b5dbed1fd0a1cf8a8695bbf033b7f2e0ce0075cd87ae3fa8789f86", func := "loop.example/g00951/laws.FnExactReadingBound", spec := "fnExactReadingBound", unfollowed := true, recurses := true, apart := false, narrowed := true }
def FnExactReadingBoundUptoSaid : Prop := fnExactReadingBoundUptoRow.holds Try.pinned (OpenSpec.upto fnExactReadingBoundSpec)

/-- 'laws.FnExactReadStock', WHERE WHAT IT READS IS OF BULK AT MOST 1048576: true; the input reads as it did. -/
def fnExactReadStockUptoRow : OpenClaim := { program := "ythkapanmmbhmcaa", sum := "4d2d09e4f1b5dbed1fd0a1cf8a8695bbf033b7f2e0ce0075cd87ae3fa8789f86", func := "loop.example/g00951/laws.FnExactReadStock", spec := "fnExactReadStock", unfollowed := true, recurses := true, apart := false, narrowed := true }
def FnExactReadStockUptoSaid : Prop := fnExactReadStockUptoRow.holds Try.pinned (OpenSpec.upto fnExactReadStockSpec)

end Rows
end Go.Proofs.Ythkapanmmbhmcaa
