/- Walks of the errors of a rule (layer 10) and of the plain functions on scales. No condition. -/
import Derived.Test.YtibcbhphkafgjaaDoorNum
import Derived.BigQuiet
import Derived.Deep.QuietTactic
import Derived.StillTailTactics
import Derived.Outline
namespace Go.Proofs.YtibcbhphkafgjaaDoor
open Go.RowKit

set_option maxHeartbeats 400000 in
theorem toPart_any (a b c : Int) (w : World) :
    Calls Tryd.prog 27 #[.agg #[.int .i64 a, .int .i64 b, .int .i64 c]] w fun e w' => e = .returned (.agg #[.int .i64 a, .int .i64 b, .int .i64 c]) ∧
      ((w.alloc (.cells #[.int .i64 a, .int .i64 b, .int .i64 c] 52)).alloc (.cells #[.int .i64 a, .int .i64 b, .int .i64 c] 50)).alloc (.cells #[.int .i64 a, .int .i64 b, .int .i64 c] 50) = w' := by
  go_enter Tryd.func27, Tryd.ntmps27
  go_wp2
  exact bodyPost_ret (v := .agg #[.int .i64 a, .int .i64 b, .int .i64 c]) (by simp [results, Tryd.results27, go_sem]) rfl ⟨rfl, rfl⟩

def areErrorsB (a b c : Int) : Bool := inB a 0 200 && inB b 0 200 && inB c 0 200
theorem areErrorsB_iff {a b c : Int} : areErrorsB a b c = true ↔ (0 ≤ a ∧ a ≤ 200) ∧ (0 ≤ b ∧ b ≤ 200) ∧ 0 ≤ c ∧ c ≤ 200 := by
  simp [areErrorsB, inB_iff, and_assoc]

def rTotal (a b c : Int) : Int × Int := if areErrorsB a b c = true then (2 * a + b + c, 0) else (0, 1)
end Go.Proofs.YtibcbhphkafgjaaDoor
