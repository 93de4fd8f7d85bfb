/- Walks of the functions on numbers (layer 1): quotients, remainders, powers of ten. No condition. -/
import Derived.Test.YtibcbhphkafgjaaDoorProg
import Derived.Test.YtibcbhphkafgjaaDoorOpen
import Derived.Test.YtibcbhphkafgjaaDoorMath2
namespace Go.Proofs.YtibcbhphkafgjaaDoor
open Go.RowKit

set_option maxHeartbeats 400000 in
theorem within_any (n lo hi : Int) (w : World) :
    Calls Tryd.prog 71 #[.int .i64 n, .int .i64 lo, .int .i64 hi] w fun e w' => e = .returned (.bool (inB n lo hi)) ∧ w = w' := by
  go_enter Tryd.func71, Tryd.ntmps71
  go_wp2
  all_goals go_ret
  all_goals (refine ⟨endBool ?_, rfl⟩)
  all_goals (simp [inB]; try omega)
set_option maxHeartbeats 400000 in
theorem l01In_any (n lo hi : Int) (w : World) :
    Calls Tryd.prog 48 #[.int .i64 n, .int .i64 lo, .int .i64 hi] w fun e w' => e = .returned (.bool (inB n lo hi)) ∧ w = w' := by
  go_enter Tryd.func48, Tryd.ntmps48
  go_wp2
  all_goals go_ret
  all_goals (refine ⟨endBool ?_, rfl⟩)
  all_goals (simp [inB]; try omega)


end Go.Proofs.YtibcbhphkafgjaaDoor
