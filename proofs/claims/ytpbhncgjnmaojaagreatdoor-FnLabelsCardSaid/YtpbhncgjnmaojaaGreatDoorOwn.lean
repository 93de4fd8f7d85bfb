/- The laws' marks on slices that a call owns, and their second reading. No condition. -/
import Derived.Test.YtpbhncgjnmaojaaGreatDoorOwn0
import Derived.Test.YtpbhncgjnmaojaaGreatDoorRule
namespace Go.Proofs.YtpbhncgjnmaojaaGreatDoor
open Go.RowKit
set_option linter.unusedVariables false
set_option linter.unusedSimpArgs false

theorem markEnd {cs : Array Value} {k m : Nat} (hk : k < m) (hs : m ≤ cs.size) (h : ∀ j, j < k → cs[j]? = (markVals m)[j]?) : ∀ j, j < k + 1 → (cs.setIfInBounds k (.int .i64 (1 + (k : Int))))[j]? = (markVals m)[j]? := by
  intro j hj
  rw [Array.getElem?_setIfInBounds]
  split
  · rename_i e
    subst e
    rw [if_pos (by omega), markVals_at hk]
  · exact h j (by omega)
/-- a call that gives a slice of its own, and a code -/
def GivesS (T : TypeId) (size n : Nat) (xs : List Value) (code : Int) (w : World) (e : Ending) (w' : World) : Prop := ∃ v, e = .returned (.tuple #[v, .int .i64 code]) ∧ w'.ownsRow w.heap.size T size v n xs ∧ Below w.heap.size w w'
theorem ownNo {x : Value} {g : Nat} (h : ∀ k, x.ownBlock = some k → k ≠ g) : x.ownBlock = none ∨ x.ownBlock ≠ some g := by
  cases hx : x.ownBlock with
  | none => exact .inl rfl
  | some k => exact .inr (fun e => by injection e with e; exact h k hx e)
theorem ownNo2 {x y : Value} {a b : Nat} (h : ∀ k, x.ownBlock = some k → k < a) (h2 : ∀ k, y.ownBlock = some k → b ≤ k) (hab : a ≤ b) : x.ownBlock = none ∨ x.ownBlock ≠ y.ownBlock := by
  cases hx : x.ownBlock with
  | none => exact .inl rfl
  | some k => exact .inr (fun e => by have := h k hx; have := h2 k e.symm; omega)
end Go.Proofs.YtpbhncgjnmaojaaGreatDoor
