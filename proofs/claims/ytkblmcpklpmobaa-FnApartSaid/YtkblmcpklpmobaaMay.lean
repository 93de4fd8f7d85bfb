/- Figures of a scale at a point (layers 2, 5, 6): IsFigure, checkPlace, MayBeAt. No condition. -/
import Derived.Test.YtkblmcpklpmobaaPos2
namespace Go.Proofs.Ytkblmcpklpmobaa
open Go.RowKit
set_option linter.unusedVariables false
set_option linter.unusedSimpArgs false

def figB (d t : Int) : Bool := inB d 1000 9999 && inB t (-30) 30
theorem figB_iff {d t : Int} : figB d t = true ↔ Dig d ∧ -30 ≤ t ∧ t ≤ 30 := by simp [figB, inB_iff, Dig]
theorem figB_dig {d t : Int} (h : figB d t = true) : Dig d ∧ -1000000 ≤ t ∧ t ≤ 1000000 := by
  have := figB_iff.1 h
  exact ⟨this.1, by omega, by omega⟩
/-- the code of a figure on a scale -/
def ckShown (s d t : Int) : Int := if figB d t = true then (if inB s 0 5 = true then (if s = 5 ∧ t ≠ 0 then 2 else 0) else 2) else 1
def ckPlace (s len d t : Int) : Int := if ckShown s d t = 0 then (if inB len 1 100000 = true then 0 else 2) else ckShown s d t
def ptB (s len point eye : Int) : Bool := inB s 0 5 && inB len 1 100000 && inB point 0 len && inB eye 0 200
def mayB (s d t len point eye : Int) : Bool := decide (plL s d t len - eye ≤ point) && decide (point ≤ plU s d t len + eye)

def rMay (s d t len point eye : Int) : Bool × Int := if figB d t = true then (if (ptB s len point eye && decide (ckShown s d t = 0)) = true then (mayB s d t len point eye, 0) else (false, 2)) else (false, 1)
theorem ckPlace_bad {s len d t : Int} (h : ckPlace s len d t ≠ 0) (point eye : Int) : rMay s d t len point eye = (false, ckPlace s len d t) := by
  unfold rMay
  unfold ckPlace ckShown at h ⊢
  by_cases hf : figB d t = true
  · by_cases hs : inB s 0 5 = true
    · by_cases h5 : s = 5 ∧ t ≠ 0
      · simp [hf, hs, h5, ckShown]
      · by_cases hl : inB len 1 100000 = true
        · simp [hf, hs, h5, hl] at h
        · simp [hf, hs, h5, hl, ckShown, ptB]
    · simp [hf, hs, ckShown]
  · simp [hf]
theorem ckPlace_ok {s len d t : Int} (h : ckPlace s len d t = 0) : figB d t = true ∧ ckShown s d t = 0 := by
  have h2 : ckShown s d t = 0 := by
    unfold ckPlace at h
    split at h
    · assumption
    · exact h
  refine ⟨?_, h2⟩
  by_cases hf : figB d t = true
  · exact hf
  · rw [ckShown, if_neg hf] at h2
    omega
theorem ptB_iff {s len point eye : Int} : ptB s len point eye = true ↔ ((0 ≤ s ∧ s ≤ 5) ∧ (1 ≤ len ∧ len ≤ 100000) ∧ (0 ≤ point ∧ point ≤ len) ∧ 0 ≤ eye ∧ eye ≤ 200) := by
  simp [ptB, inB_iff, and_assoc]
end Go.Proofs.Ytkblmcpklpmobaa
