/- Rules (layer 11): when a rule is one; the copies of a rule that a law makes. No condition. -/
import Derived.Test.YtpbhncgjnmaojaaGreatDoorRule
import Derived.Test.YtpbhncgjnmaojaaGreatDoorMk2
namespace Go.Proofs.YtpbhncgjnmaojaaGreatDoor
open Go.RowKit
set_option linter.unusedVariables false

/-- a quiet call inside a region that draws, behind draws or not -/
theorem quietAny {P : Program} {f : FuncId} {args : Array Value} {w : World} {a n : Nat} {v : Value}
    (h : Calls P f args (w.drewN (a + n)) fun e w' => e = .returned v ∧ w.drewN (a + n) = w') : Calls P f args (w.drewN (a + n)) fun e w'' => e = .returned v ∧ ∃ m, w'' = w.drewN (a + m) :=
  h.mono fun _ _ ⟨he, hm⟩ => ⟨he, n, hm.symm⟩
theorem inScale_iff {s : Int} : inB s 0 5 = true ↔ 0 ≤ s ∧ s ≤ 5 := inB_iff
theorem errScale_of {s : Int} (h : inB s 0 5 = true) (h5 : ¬ s = 5) : errScaleB s = true := by simp [errScaleB, h, h5]
theorem errScale_no {s : Int} (h : inB s 0 5 = false) : errScaleB s = false := by simp [errScaleB, h]
theorem errScale_5 {s : Int} (h5 : s = 5) : errScaleB s = false := by simp [errScaleB, h5]

def ruleB (a : Int) (ls lt : List Int) : Bool := inB a 1 100000 && (scalesB ls && scalesB lt)
end Go.Proofs.YtpbhncgjnmaojaaGreatDoor
