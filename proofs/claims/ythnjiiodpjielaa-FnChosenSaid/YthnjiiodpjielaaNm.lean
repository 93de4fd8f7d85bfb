/- NearestMark (layer 7). No condition. -/
import Derived.Test.YthnjiiodpjielaaLawM
import Derived.Test.YthnjiiodpjielaaTk3
namespace Go.Proofs.Ythnjiiodpjielaa
open Go.RowKit
set_option linter.unusedVariables false

/-- the nearest to x from b on -/
def nearV (x : Int) : List Int → Int → Int
  | [], b => b
  | y :: r, b => nearV x r (if dist y x < dist b x then y else b)
def rNearM (l : List (Int × Int × Int)) (x : Int) : Int × Int := if gradB l = true then (if inB x 1000 9999 = true then (nearV x (marks l) 1000, 0) else (0, 2)) else (0, 1)
theorem marks_first {l : List (Int × Int × Int)} (h : gradB l = true) : (marks l)[0]? = some 1000 := by
  obtain ⟨hg, h1, _⟩ := gradB_in h
  match l, h1 with
  | p :: r, _ =>
    obtain ⟨a1, a2, a3, a4, a5⟩ := hg p (List.mem_cons_self ..)
    have e : p.1 = 1000 := by
      simp only [gradB, gradRun, Bool.and_eq_true, decide_eq_true_eq] at h
      have h2 := h.2
      split at h2
      · rename_i hp
        exact hp.1
      · cases h2
    rw [marks, List.flatMap_cons, marksP, upTo_step a4 a2, List.cons_append, List.getElem?_cons_zero, e]
theorem marks_bd {l : List (Int × Int × Int)} (h : gradB l = true) : ∀ y ∈ marks l, 1000 ≤ y ∧ y ≤ 10000 := by
  intro y hy
  obtain ⟨hg, _⟩ := gradB_in h
  obtain ⟨p, hp, i1, i2, _⟩ := (marks_mem hg y).1 hy
  obtain ⟨a1, a2, a3, a4, a5⟩ := hg p hp
  omega
end Go.Proofs.Ythnjiiodpjielaa
