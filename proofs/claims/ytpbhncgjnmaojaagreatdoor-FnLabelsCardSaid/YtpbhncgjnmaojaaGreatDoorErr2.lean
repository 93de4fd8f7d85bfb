/- Walks of the plain functions on scales and lengths, and of the units of errors (layers 5, 10). No condition. -/
import Derived.Test.YtpbhncgjnmaojaaGreatDoorErr
namespace Go.Proofs.YtpbhncgjnmaojaaGreatDoor
open Go.RowKit
set_option linter.unusedVariables false

set_option maxHeartbeats 400000 in
theorem isDigits_any (n : Int) (w : World) :
    Calls Tryz.prog 39 #[.int .i64 n] w fun e w' => e = .returned (.bool (inB n 1000 9999)) ∧ w = w' := by
  go_enter Tryz.func39, Tryz.ntmps39
  go_wp2_with (go_at_call 40; refine (within_any _ _ _ _).mono ?_; rintro e w' ⟨rfl, rfl⟩)
  go_ret
  exact ⟨rfl, rfl⟩

def errScaleB (s : Int) : Bool := inB s 0 5 && (s != 5)
theorem errScaleB_iff {s : Int} : errScaleB s = true ↔ 0 ≤ s ∧ s ≤ 4 := by
  simp [errScaleB, inB_iff]
  omega

/-- what errors need, in units of a rule of length 1 -/
def errNeed (s a b c : Int) : Int := (2 * a + b + c) * 1048576 * decades s
theorem errNeed_bd {s a b c : Int} (h1 : 0 ≤ a) (h2 : a ≤ 200) (h3 : 0 ≤ b) (h4 : b ≤ 200) (h5 : 0 ≤ c) (h6 : c ≤ 200) : 0 ≤ (2 * a + b + c) * 1048576 * decades s ∧ (2 * a + b + c) * 1048576 * decades s ≤ 2516582400 := by
  unfold decades
  split
  · omega
  · split <;> omega
def errU (s l a b c : Int) : Int := ceilDiv ((2 * a + b + c) * 1048576 * decades s) l
def rUnits (s l a b c : Int) : Int × Int := if areErrorsB a b c = true then (if (errScaleB s && inB l 1 100000) = true then (errU s l a b c, 0) else (0, 2)) else (0, 1)
end Go.Proofs.YtpbhncgjnmaojaaGreatDoor
