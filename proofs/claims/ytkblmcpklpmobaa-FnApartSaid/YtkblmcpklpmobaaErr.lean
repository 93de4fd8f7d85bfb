/- Walks of the errors of a rule (layer 10) and of the plain functions on scales. No condition. -/
import Derived.Test.YtkblmcpklpmobaaNum
import Derived.BigQuiet
import Derived.Deep.QuietTactic
import Derived.StillTailTactics
import Derived.Outline
namespace Go.Proofs.Ytkblmcpklpmobaa
open Go.RowKit

set_option maxHeartbeats 400000 in
theorem toPart_any (a b c : Int) (w : World) :
    Calls Try.prog 90 #[.agg #[.int .i64 a, .int .i64 b, .int .i64 c]] w fun e w' => e = .returned (.agg #[.int .i64 a, .int .i64 b, .int .i64 c]) ∧
      ((w.alloc (.cells #[.int .i64 a, .int .i64 b, .int .i64 c] 101)).alloc (.cells #[.int .i64 a, .int .i64 b, .int .i64 c] 79)).alloc (.cells #[.int .i64 a, .int .i64 b, .int .i64 c] 79) = w' := by
  go_enter Try.func90, Try.ntmps90
  go_wp2
  exact bodyPost_ret (v := .agg #[.int .i64 a, .int .i64 b, .int .i64 c]) (by simp [results, Try.results90, go_sem]) rfl ⟨rfl, rfl⟩
set_option maxHeartbeats 400000 in
theorem toTick_any (a b c : Int) (w : World) :
    Calls Try.prog 78 #[.agg #[.int .i64 a, .int .i64 b, .int .i64 c]] w fun e w' => e = .returned (.agg #[.int .i64 a, .int .i64 b, .int .i64 c]) ∧
      ((w.alloc (.cells #[.int .i64 a, .int .i64 b, .int .i64 c] 92)).alloc (.cells #[.int .i64 a, .int .i64 b, .int .i64 c] 51)).alloc (.cells #[.int .i64 a, .int .i64 b, .int .i64 c] 51) = w' := by
  go_enter Try.func78, Try.ntmps78
  go_wp2
  exact bodyPost_ret (v := .agg #[.int .i64 a, .int .i64 b, .int .i64 c]) (by simp [results, Try.results78, go_sem]) rfl ⟨rfl, rfl⟩

def areErrorsB (a b c : Int) : Bool := inB a 0 200 && inB b 0 200 && inB c 0 200
theorem areErrorsB_iff {a b c : Int} : areErrorsB a b c = true ↔ (0 ≤ a ∧ a ≤ 200) ∧ (0 ≤ b ∧ b ≤ 200) ∧ 0 ≤ c ∧ c ≤ 200 := by
  simp [areErrorsB, inB_iff, and_assoc]

def rTotal (a b c : Int) : Int × Int := if areErrorsB a b c = true then (2 * a + b + c, 0) else (0, 1)
end Go.Proofs.Ytkblmcpklpmobaa
