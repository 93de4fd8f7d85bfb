/- The law on IsGraduation; what a law's own helpers on sizes give. No condition. -/
import Derived.Test.YthkapanmmbhmcaaGrad
namespace Go.Proofs.Ythkapanmmbhmcaa
open Go.RowKit
set_option linter.unusedVariables false

end Go.Proofs.Ythkapanmmbhmcaa
