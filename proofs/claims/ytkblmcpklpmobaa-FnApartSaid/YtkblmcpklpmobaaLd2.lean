/- LeastDistance (layer 7): the exported functions and the law. No condition. -/
import Derived.Test.YtkblmcpklpmobaaLd
namespace Go.Proofs.Ytkblmcpklpmobaa
open Go.RowKit
set_option linter.unusedVariables false
set_option linter.unusedSimpArgs false

def rLeast (l : List (Int × Int × Int)) (s len : Int) : Int × Int := if gradB l = true then (if (inB s 0 5 && inB len 1 100000) = true then (if 0 ≤ leastOf s len (marks l) then (leastOf s len (marks l), 0) else (0, 4)) else (0, 2)) else (0, 1)
theorem upTo_all {to step x : Int} (h1 : 1000 ≤ x) (h2 : to ≤ 10000) (h3 : 1 ≤ step) : MarksAll (upTo to step x) := by
  intro y hy
  obtain ⟨i1, i2, _⟩ := (upTo_mem h3 y _ _ (Nat.le_refl _)).1 hy
  exact ⟨by omega, by omega⟩
theorem marks_all {l : List (Int × Int × Int)} (h : partsIn l) : MarksAll (marks l) := by
  intro y hy
  obtain ⟨p, hp, i1, i2, _⟩ := (marks_mem h y).1 hy
  obtain ⟨a1, a2, a3, a4, a5⟩ := h p hp
  exact ⟨by omega, by omega⟩
end Go.Proofs.Ytkblmcpklpmobaa
