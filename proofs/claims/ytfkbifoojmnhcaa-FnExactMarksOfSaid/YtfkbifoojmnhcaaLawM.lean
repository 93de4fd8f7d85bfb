/- The laws on CountMarks, IsMark. No condition. -/
import Derived.Test.YtfkbifoojmnhcaaLawG
import Derived.Test.YtfkbifoojmnhcaaMk2
namespace Go.Proofs.Ytfkbifoojmnhcaa
open Go.RowKit
set_option linter.unusedVariables false

end Go.Proofs.Ytfkbifoojmnhcaa
