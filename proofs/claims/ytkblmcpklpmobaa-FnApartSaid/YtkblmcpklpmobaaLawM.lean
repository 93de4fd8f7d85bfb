/- The laws on CountMarks, IsMark. No condition. -/
import Derived.Test.YtkblmcpklpmobaaLawG
import Derived.Test.YtkblmcpklpmobaaMk2
namespace Go.Proofs.Ytkblmcpklpmobaa
open Go.RowKit
set_option linter.unusedVariables false

end Go.Proofs.Ytkblmcpklpmobaa
