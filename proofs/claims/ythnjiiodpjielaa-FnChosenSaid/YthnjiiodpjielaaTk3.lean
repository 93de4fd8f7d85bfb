/- Ticks (layer 8): NearestTick. No condition. -/
import Derived.Test.YthnjiiodpjielaaTk2
namespace Go.Proofs.Ythnjiiodpjielaa
open Go.RowKit
set_option linter.unusedVariables false

def dist (a b : Int) : Int := max (a - b) (-(a - b))
def plc (l : List (Int × Int × Int)) (i : Nat) : Int := (l.getD i (0, 0, 0)).2.1
theorem plc_at {l : List (Int × Int × Int)} {i : Nat} {p : Int × Int × Int} (h : l[i]? = some p) : plc l i = p.2.1 := by
  simp [plc, List.getD, h]
/-- the nearest of the first k -/
def nearUp (l : List (Int × Int × Int)) (x : Int) : Nat → Nat
  | 0 => 0
  | k + 1 => if dist (plc l k) x < dist (plc l (nearUp l x k)) x then k else nearUp l x k
theorem nearUp_le (l : List (Int × Int × Int)) (x : Int) : ∀ k, nearUp l x k ≤ k - 1
  | 0 => by simp [nearUp]
  | k + 1 => by
    have := nearUp_le l x k
    rw [nearUp]
    split <;> omega
def rNear (l : List (Int × Int × Int)) (x : Int) : Int × Int :=
  if ckT l [x] = 0 then (if l.length = 0 then (0, 4) else ((nearUp l x l.length : Int), 0)) else (0, ckT l [x])
end Go.Proofs.Ythnjiiodpjielaa
