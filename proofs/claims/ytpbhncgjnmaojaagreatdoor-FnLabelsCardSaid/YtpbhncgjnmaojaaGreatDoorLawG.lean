/- The law on IsGraduation; what a law's own helpers on sizes give. No condition. -/
import Derived.Test.YtpbhncgjnmaojaaGreatDoorGrad
namespace Go.Proofs.YtpbhncgjnmaojaaGreatDoor
open Go.RowKit
set_option linter.unusedVariables false

end Go.Proofs.YtpbhncgjnmaojaaGreatDoor
