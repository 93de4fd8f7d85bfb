/- The comparisons of the laws of words: slices alike. No condition. -/
import Derived.Test.YtpbhncgjnmaojaaDoorOwn
import Derived.Test.YtpbhncgjnmaojaaDoorMk2
namespace Go.Proofs.YtpbhncgjnmaojaaDoor
open Go.RowKit
set_option linter.unusedVariables false
set_option linter.unusedSimpArgs false

set_option maxHeartbeats 400000 in
theorem big_small (A : Option Addr) (n c : Nat) (w : World) (hn : n ≤ 9223372036854775807) :
    Calls Tryd.prog 33 #[.slice A n c] w fun e w' => e = .returned (.bool (decide (4096 < n))) ∧ w = w' := by
  go_enter Tryd.func33, Tryd.ntmps33
  go_wp2
  go_ret
  exact ⟨endBool (by rw [decide_eq_decide]; omega), rfl⟩
end Go.Proofs.YtpbhncgjnmaojaaDoor
