/- Walks of LengthFor, and of the laws on ScaleErrors and LengthFor (layer 10). No condition. -/
import Derived.Test.YthnjiiodpjielaaErr3
namespace Go.Proofs.Ythnjiiodpjielaa
open Go.RowKit
set_option linter.unusedVariables false


def lenOf (s a b c u : Int) : Int := max 1 (ceilDiv ((2 * a + b + c) * 1048576 * decades s) u)
def rLength (s a b c u : Int) : Int × Int :=
  if areErrorsB a b c = true then (if (errScaleB s && inB u 1 1048576) = true then (if 100000 < lenOf s a b c u then (0, 4) else (lenOf s a b c u, 0)) else (0, 2)) else (0, 1)
end Go.Proofs.Ythnjiiodpjielaa
