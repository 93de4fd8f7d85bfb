/- Walks of ScaleErrors and LengthFor (layer 10). No condition. -/
import Derived.Test.YtdbhlichldcnfaaErr2
import Derived.Deep.RegionHeld3
namespace Go.Proofs.Ytdbhlichldcnfaa
open Go.RowKit
set_option linter.unusedVariables false

def scaledE (a b c n d : Int) : Int × Int × Int := (ceilDiv (a * n) d, ceilDiv (b * n) d, ceilDiv (c * n) d)
def rScaled (a b c n d : Int) : (Int × Int × Int) × Int :=
  if areErrorsB a b c = true then
    (if (inB n 1 1000 && inB d 1 1000) = true then
      (if areErrorsB (ceilDiv (a * n) d) (ceilDiv (b * n) d) (ceilDiv (c * n) d) = true then (scaledE a b c n d, 0) else ((0, 0, 0), 3))
    else ((0, 0, 0), 2))
  else ((0, 0, 0), 1)
theorem prod_bd {a n : Int} (h1 : 0 ≤ a) (h2 : a ≤ 200) (h3 : 1 ≤ n) (h4 : n ≤ 1000) : 0 ≤ a * n ∧ a * n ≤ 200000 :=
  ⟨Int.mul_nonneg h1 (by omega), by simpa using Int.mul_le_mul h2 h4 (by omega) (by omega)⟩
theorem endAgg3 {p : (Int × Int × Int) × Int} {x y z k : Int} (h : p = ((x, y, z), k)) :
    Ending.returned (.tuple #[.agg #[.int .i64 x, .int .i64 y, .int .i64 z], .int .i64 k]) = .returned (.tuple #[.agg #[.int .i64 p.1.1, .int .i64 p.1.2.1, .int .i64 p.1.2.2], .int .i64 p.2]) := by subst h; rfl

end Go.Proofs.Ytdbhlichldcnfaa
