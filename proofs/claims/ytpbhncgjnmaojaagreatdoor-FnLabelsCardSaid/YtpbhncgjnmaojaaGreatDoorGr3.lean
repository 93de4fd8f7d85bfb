/- The law FnExactGreedyChoice (layer 9). No condition but the table. -/
import Derived.Test.YtpbhncgjnmaojaaGreatDoorGr2
namespace Go.Proofs.YtpbhncgjnmaojaaGreatDoor
open Go.RowKit
set_option linter.unusedVariables false
set_option linter.unusedSimpArgs false

theorem rGreedy_lenB (l : List (Int × Int × Int)) : (rGreedy l).1.length ≤ 1048576 := by
  have := rGreedy_len l
  omega
end Go.Proofs.YtpbhncgjnmaojaaGreatDoor
