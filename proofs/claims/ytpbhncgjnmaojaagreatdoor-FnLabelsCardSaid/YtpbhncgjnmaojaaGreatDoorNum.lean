/- Walks of the functions on numbers (layer 1): quotients, remainders, powers of ten. No condition. -/
import Derived.Test.YtpbhncgjnmaojaaGreatDoorProg
import Derived.Test.YtpbhncgjnmaojaaGreatDoorOpen
import Derived.Test.YtpbhncgjnmaojaaGreatDoorMath2
namespace Go.Proofs.YtpbhncgjnmaojaaGreatDoor
open Go.RowKit

set_option maxHeartbeats 400000 in
theorem within_any (n lo hi : Int) (w : World) :
    Calls Tryz.prog 40 #[.int .i64 n, .int .i64 lo, .int .i64 hi] w fun e w' => e = .returned (.bool (inB n lo hi)) ∧ w = w' := by
  go_enter Tryz.func40, Tryz.ntmps40
  go_wp2
  all_goals go_ret
  all_goals (refine ⟨endBool ?_, rfl⟩)
  all_goals (simp [inB]; try omega)
set_option maxHeartbeats 400000 in
theorem l01In_any (n lo hi : Int) (w : World) :
    Calls Tryz.prog 69 #[.int .i64 n, .int .i64 lo, .int .i64 hi] w fun e w' => e = .returned (.bool (inB n lo hi)) ∧ w = w' := by
  go_enter Tryz.func69, Tryz.ntmps69
  go_wp2
  all_goals go_ret
  all_goals (refine ⟨endBool ?_, rfl⟩)
  all_goals (simp [inB]; try omega)


end Go.Proofs.YtpbhncgjnmaojaaGreatDoor
