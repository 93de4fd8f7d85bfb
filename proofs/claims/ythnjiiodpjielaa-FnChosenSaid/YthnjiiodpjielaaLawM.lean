/- The laws on CountMarks, IsMark. No condition. -/
import Derived.Test.YthnjiiodpjielaaLawG
import Derived.Test.YthnjiiodpjielaaMk2
namespace Go.Proofs.Ythnjiiodpjielaa
open Go.RowKit
set_option linter.unusedVariables false

end Go.Proofs.Ythnjiiodpjielaa
