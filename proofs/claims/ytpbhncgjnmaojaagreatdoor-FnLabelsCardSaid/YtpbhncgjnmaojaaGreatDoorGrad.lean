/- Graduations (layer 7): when a list of parts is one; walks of both functions that say so; the law. No condition. -/
import Derived.Test.YtpbhncgjnmaojaaGreatDoorSl
import Derived.Test.YtpbhncgjnmaojaaGreatDoorErr2
namespace Go.Proofs.YtpbhncgjnmaojaaGreatDoor
open Go.RowKit
set_option linter.unusedVariables false

def partOk (at_ : Int) (p : Int × Int × Int) : Prop := p.1 = at_ ∧ p.1 < p.2.1 ∧ p.2.1 ≤ 10000 ∧ 1 ≤ p.2.2 ∧ (p.2.1 - p.1) % p.2.2 = 0
instance (at_ : Int) (p : Int × Int × Int) : Decidable (partOk at_ p) := by unfold partOk; infer_instance
def gradRun : Int → List (Int × Int × Int) → Option Int
  | at_, [] => some at_
  | at_, p :: r => if partOk at_ p then gradRun p.2.1 r else none
def gradB (l : List (Int × Int × Int)) : Bool := decide (1 ≤ l.length) && decide (l.length ≤ 12) && decide (gradRun 1000 l = some 10000)
theorem gradB_short {l : List (Int × Int × Int)} (h : ¬ (1 ≤ l.length ∧ l.length ≤ 12)) : gradB l = false := by
  simp only [gradB, Bool.and_eq_false_iff, decide_eq_false_iff_not]
  omega
theorem gradB_of {l : List (Int × Int × Int)} (h1 : 1 ≤ l.length) (h2 : l.length ≤ 12) : gradB l = decide (gradRun 1000 l = some 10000) := by
  simp [gradB, h1, h2]
theorem gradRun_step {l : List (Int × Int × Int)} {k : Nat} {p : Int × Int × Int} {at_ : Int} (hp : l[k]? = some p) : gradRun at_ (l.drop k) = if partOk at_ p then gradRun p.2.1 (l.drop (k + 1)) else none := by
  obtain ⟨hk, e⟩ := List.getElem?_eq_some_iff.1 hp
  rw [List.drop_eq_getElem_cons hk, e, gradRun]
theorem gradRun_no {l : List (Int × Int × Int)} {k : Nat} {p : Int × Int × Int} {at_ : Int} (hp : l[k]? = some p) (h : ¬ partOk at_ p) : gradRun at_ (l.drop k) = none := by
  rw [gradRun_step hp, if_neg h]
theorem gradRun_yes {l : List (Int × Int × Int)} {k : Nat} {p : Int × Int × Int} {at_ : Int} (hp : l[k]? = some p) (h : partOk at_ p) : gradRun at_ (l.drop k) = gradRun p.2.1 (l.drop (k + 1)) := by
  rw [gradRun_step hp, if_pos h]
theorem none_no {x : Option Int} {y : Int} (h : x = none) : decide (x = some y) = false := by subst h; rfl
end Go.Proofs.YtpbhncgjnmaojaaGreatDoor
