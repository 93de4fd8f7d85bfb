/- Walks of the functions on numbers (layer 1): quotients, remainders, powers of ten. No condition. -/
import Derived.Test.YtpbhncgjnmaojaaDoorProg
import Derived.Test.YtpbhncgjnmaojaaDoorOpen
import Derived.Test.YtpbhncgjnmaojaaDoorMath2
namespace Go.Proofs.YtpbhncgjnmaojaaDoor
open Go.RowKit

set_option maxHeartbeats 400000 in
theorem within_any (n lo hi : Int) (w : World) :
    Calls Tryd.prog 69 #[.int .i64 n, .int .i64 lo, .int .i64 hi] w fun e w' => e = .returned (.bool (inB n lo hi)) ∧ w = w' := by
  go_enter Tryd.func69, Tryd.ntmps69
  go_wp2
  all_goals go_ret
  all_goals (refine ⟨endBool ?_, rfl⟩)
  all_goals (simp [inB]; try omega)
set_option maxHeartbeats 400000 in
theorem l01In_any (n lo hi : Int) (w : World) :
    Calls Tryd.prog 66 #[.int .i64 n, .int .i64 lo, .int .i64 hi] w fun e w' => e = .returned (.bool (inB n lo hi)) ∧ w = w' := by
  go_enter Tryd.func66, Tryd.ntmps66
  go_wp2
  all_goals go_ret
  all_goals (refine ⟨endBool ?_, rfl⟩)
  all_goals (simp [inB]; try omega)

set_option maxHeartbeats 400000 in
theorem l01Is_any (n : Int) (w : World) :
    Calls Tryd.prog 55 #[.int .i64 n] w fun e w' => e = .returned (.bool (inB n (-1000000000000) 1000000000000)) ∧ w = w' := by
  go_enter Tryd.func55, Tryd.ntmps55
  go_wp2_with (go_at_call 66; refine (l01In_any _ _ _ _).mono ?_; rintro e w' ⟨rfl, rfl⟩)
  go_ret
  exact ⟨rfl, rfl⟩

end Go.Proofs.YtpbhncgjnmaojaaDoor
