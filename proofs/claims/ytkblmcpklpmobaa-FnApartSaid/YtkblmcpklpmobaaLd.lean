/- leastDistance, LeastDistance, FinestStep (layer 7). No condition. -/
import Derived.Test.YtkblmcpklpmobaaPt
import Derived.Test.YtkblmcpklpmobaaNm
namespace Go.Proofs.Ytkblmcpklpmobaa
open Go.RowKit
set_option linter.unusedVariables false
set_option linter.unusedSimpArgs false

/-- the middle of the place of a mark -/
def mid (s len d : Int) : Int := (plL s d 0 len + plU s d 0 len) / 2
/-- one mark more: p the mark before, y the mark, a the least up to here -/
def leastStep (s len p y a : Int) : Int := if s = 4 ∧ p ≤ 3142 ∧ 3142 < y then a else (if a < 0 ∨ dist (mid s len p) (mid s len y) < a then dist (mid s len p) (mid s len y) else a)
def leastR (s len : Int) : Int → List Int → Int → Int
  | _, [], a => a
  | p, y :: r, a => leastR s len y r (leastStep s len p y a)
def leastOf (s len : Int) : List Int → Int
  | [] => -1
  | x :: r => leastR s len x r (-1)
def MarksAll (m : List Int) : Prop := ∀ y ∈ m, Dig y
theorem mid_bd {s len d : Int} (hd : Dig d) (h1 : 1 ≤ len) (h2 : len ≤ 100000) : -200001 ≤ mid s len d ∧ mid s len d ≤ 200001 := by
  have := pl_bd (s := s) (t := 0) hd h1 h2
  unfold mid
  omega
theorem middleM_any (s d len : Int) (w : World) (hd : Dig d) (h1 : 1 ≤ len) (h2 : len ≤ 100000) :
    Calls Try.prog 110 #[.int .i64 s, .int .i64 d, .int .i64 len] w fun e w' => e = .returned (.int .i64 (mid s len d)) ∧ Below w.heap.size w w' := middle_any s d len w hd h1 h2
theorem l07MiddleM_any (s d len : Int) (w : World) (hd : Dig d) (h1 : 1 ≤ len) (h2 : len ≤ 100000) :
    Calls Try.prog 88 #[.int .i64 s, .int .i64 d, .int .i64 len] w fun e w' => e = .returned (.int .i64 (mid s len d)) ∧ Below w.heap.size w w' := l07Middle_any s d len w hd h1 h2
theorem leastR_snoc (s len : Int) : ∀ (m : List Int) (p q y a : Int), (p :: m).getLast? = some q → leastR s len p (m ++ [y]) a = leastStep s len q y (leastR s len p m a)
  | [], p, q, y, a, h => by simp at h; subst h; rfl
  | z :: m, p, q, y, a, h => by
    rw [List.cons_append, leastR, leastR]
    exact leastR_snoc s len m z q y _ (by simpa using h)
/-- what holds at the head of round k of the reference's loop -/
def LInv (s len : Int) (m : List Int) (k : Nat) (a bf : Int) : Prop := (k = 0 ∧ a = -1) ∨ ∃ j p, k = j + 1 ∧ m[j]? = some p ∧ bf = mid s len p ∧ leastOf s len m = leastR s len p (m.drop (j + 1)) a
theorem LInv.end_ {s len : Int} {m : List Int} {a bf : Int} (h : LInv s len m m.length a bf) : leastOf s len m = a := by
  rcases h with ⟨h, rfl⟩ | ⟨j, p, h, hp, rfl, e⟩
  · match m, h with
    | [], _ => rfl
  · rw [e, List.drop_of_length_le (by omega), leastR]
end Go.Proofs.Ytkblmcpklpmobaa
