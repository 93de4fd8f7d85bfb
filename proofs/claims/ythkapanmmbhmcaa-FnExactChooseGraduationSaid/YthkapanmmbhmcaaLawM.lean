/- The laws on CountMarks, IsMark. No condition. -/
import Derived.Test.YthkapanmmbhmcaaLawG
import Derived.Test.YthkapanmmbhmcaaMk2
namespace Go.Proofs.Ythkapanmmbhmcaa
open Go.RowKit
set_option linter.unusedVariables false

end Go.Proofs.Ythkapanmmbhmcaa
