/- Draws of the arguments of layers 7 and 8: graduations with numbers. No condition. -/
import Derived.Test.YtibcbhphkafgjaaDoorDr2
import Derived.Test.YtibcbhphkafgjaaDoorDr3
namespace Go.Proofs.YtibcbhphkafgjaaDoor
open Go.RowKit
set_option linter.unusedVariables false
set_option linter.unusedSimpArgs false

theorem pickOf5 {v x0 x1 x2 x3 x4 : Int} {P : Int → Prop} (h : ∃ j : Nat, j < 5 ∧ (#[Value.int .i64 x0, Value.int .i64 x1, Value.int .i64 x2, Value.int .i64 x3, Value.int .i64 x4] : Array Value)[j]? = some (.int .i64 v)) (h0 : P x0) (h1 : P x1) (h2 : P x2) (h3 : P x3) (h4 : P x4) : P v := by
  obtain ⟨j, hj, h⟩ := h
  rcases j with _ | _ | _ | _ | _ | j <;> first | (simp at h; subst h; assumption) | omega
theorem pickOf6 {v x0 x1 x2 x3 x4 x5 : Int} {P : Int → Prop} (h : ∃ j : Nat, j < 6 ∧ (#[Value.int .i64 x0, Value.int .i64 x1, Value.int .i64 x2, Value.int .i64 x3, Value.int .i64 x4, Value.int .i64 x5] : Array Value)[j]? = some (.int .i64 v)) (h0 : P x0) (h1 : P x1) (h2 : P x2) (h3 : P x3) (h4 : P x4) (h5 : P x5) : P v := by
  obtain ⟨j, hj, h⟩ := h
  rcases j with _ | _ | _ | _ | _ | _ | j <;> first | (simp at h; subst h; assumption) | omega
theorem pickOf7 {v x0 x1 x2 x3 x4 x5 x6 : Int} {P : Int → Prop} (h : ∃ j : Nat, j < 7 ∧ (#[Value.int .i64 x0, Value.int .i64 x1, Value.int .i64 x2, Value.int .i64 x3, Value.int .i64 x4, Value.int .i64 x5, Value.int .i64 x6] : Array Value)[j]? = some (.int .i64 v)) (h0 : P x0) (h1 : P x1) (h2 : P x2) (h3 : P x3) (h4 : P x4) (h5 : P x5) (h6 : P x6) : P v := by
  obtain ⟨j, hj, h⟩ := h
  rcases j with _ | _ | _ | _ | _ | _ | _ | j <;> first | (simp at h; subst h; assumption) | omega
theorem pickOf8 {v x0 x1 x2 x3 x4 x5 x6 x7 : Int} {P : Int → Prop} (h : ∃ j : Nat, j < 8 ∧ (#[Value.int .i64 x0, Value.int .i64 x1, Value.int .i64 x2, Value.int .i64 x3, Value.int .i64 x4, Value.int .i64 x5, Value.int .i64 x6, Value.int .i64 x7] : Array Value)[j]? = some (.int .i64 v)) (h0 : P x0) (h1 : P x1) (h2 : P x2) (h3 : P x3) (h4 : P x4) (h5 : P x5) (h6 : P x6) (h7 : P x7) : P v := by
  obtain ⟨j, hj, h⟩ := h
  rcases j with _ | _ | _ | _ | _ | _ | _ | _ | j <;> first | (simp at h; subst h; assumption) | omega
theorem pickOf4 {v x0 x1 x2 x3 : Int} {P : Int → Prop} (h : ∃ j : Nat, j < 4 ∧ (#[Value.int .i64 x0, Value.int .i64 x1, Value.int .i64 x2, Value.int .i64 x3] : Array Value)[j]? = some (.int .i64 v)) (h0 : P x0) (h1 : P x1) (h2 : P x2) (h3 : P x3) : P v := pick4 h h0 h1 h2 h3
/-- a graduation of its own, and numbers -/
def GivesGN (xs : List Int → Value → Value) (k : Nat) (w : World) (e : Ending) (w' : World) : Prop := ∃ v L ns, e = .returned (xs ns v) ∧ ns.length = k ∧ I64s ns ∧ L.length ≤ 12 ∧ I64s3 L ∧ w'.ownsRow w.heap.size 50 3 v L.length (cells3 L) ∧ Below w.heap.size w w'
def gv1 (ns : List Int) (v : Value) : Value := v
def gv2 (ns : List Int) (v : Value) : Value := .tuple #[v, .int .i64 (ns.getD 0 0)]
def gv3 (ns : List Int) (v : Value) : Value := .tuple #[v, .int .i64 (ns.getD 0 0), .int .i64 (ns.getD 1 0)]
def gv5 (ns : List Int) (v : Value) : Value := .tuple #[v, .int .i64 (ns.getD 0 0), .int .i64 (ns.getD 1 0), .int .i64 (ns.getD 2 0), .int .i64 (ns.getD 3 0)]
theorem i64s_one {x : Int} (h : I64 x) : I64s [x] := fun y hy => by rw [List.mem_singleton] at hy; subst hy; exact h
theorem i64s_two {x y : Int} (h : I64 x) (k : I64 y) : I64s [x, y] := fun z hz => by rcases List.mem_cons.1 hz with rfl | hz; exact h; rw [List.mem_singleton] at hz; subst hz; exact k
theorem nums_7' (x0 x1 x2 x3 x4 x5 x6 : Int) : Nums #[.int .i64 x0, .int .i64 x1, .int .i64 x2, .int .i64 x3, .int .i64 x4, .int .i64 x5, .int .i64 x6] 7 := nums_7 x0 x1 x2 x3 x4 x5 x6
end Go.Proofs.YtibcbhphkafgjaaDoor
