/- Walks of the errors of a rule (layer 10) and of the plain functions on scales. No condition. -/
import Derived.Test.YtpbhncgjnmaojaaDoorNum
import Derived.BigQuiet
import Derived.Deep.QuietTactic
import Derived.StillTailTactics
import Derived.Outline
namespace Go.Proofs.YtpbhncgjnmaojaaDoor
open Go.RowKit

set_option maxHeartbeats 400000 in
theorem toTick_any (a b c : Int) (w : World) :
    Calls Tryd.prog 13 #[.agg #[.int .i64 a, .int .i64 b, .int .i64 c]] w fun e w' => e = .returned (.agg #[.int .i64 a, .int .i64 b, .int .i64 c]) ∧
      ((w.alloc (.cells #[.int .i64 a, .int .i64 b, .int .i64 c] 23)).alloc (.cells #[.int .i64 a, .int .i64 b, .int .i64 c] 26)).alloc (.cells #[.int .i64 a, .int .i64 b, .int .i64 c] 26) = w' := by
  go_enter Tryd.func13, Tryd.ntmps13
  go_wp2
  exact bodyPost_ret (v := .agg #[.int .i64 a, .int .i64 b, .int .i64 c]) (by simp [results, Tryd.results13, go_sem]) rfl ⟨rfl, rfl⟩

def areErrorsB (a b c : Int) : Bool := inB a 0 200 && inB b 0 200 && inB c 0 200
theorem areErrorsB_iff {a b c : Int} : areErrorsB a b c = true ↔ (0 ≤ a ∧ a ≤ 200) ∧ (0 ≤ b ∧ b ≤ 200) ∧ 0 ≤ c ∧ c ≤ 200 := by
  simp [areErrorsB, inB_iff, and_assoc]

def rTotal (a b c : Int) : Int × Int := if areErrorsB a b c = true then (2 * a + b + c, 0) else (0, 1)
end Go.Proofs.YtpbhncgjnmaojaaDoor
