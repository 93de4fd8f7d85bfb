/- Draws of scales, figures, eyes (layers 2, 5, 6). No condition. -/
import Derived.Test.YtibcbhphkafgjaaDoorDr
import Derived.Test.YtibcbhphkafgjaaDoorErr2
namespace Go.Proofs.YtibcbhphkafgjaaDoor
open Go.RowKit
set_option linter.unusedVariables false
set_option linter.unusedSimpArgs false

end Go.Proofs.YtibcbhphkafgjaaDoor
