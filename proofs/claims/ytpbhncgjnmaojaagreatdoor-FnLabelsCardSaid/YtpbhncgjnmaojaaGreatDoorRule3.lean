/- Rules (layer 11): copies and comparisons of rules; the laws on IsRule and HasScale. No condition. -/
import Derived.Test.YtpbhncgjnmaojaaGreatDoorRule2
import Derived.Outline
namespace Go.Proofs.YtpbhncgjnmaojaaGreatDoor
open Go.RowKit
set_option linter.unusedVariables false

end Go.Proofs.YtpbhncgjnmaojaaGreatDoor
