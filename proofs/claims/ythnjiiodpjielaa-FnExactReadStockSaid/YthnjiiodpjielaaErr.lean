/- Walks of the errors of a rule (layer 10) and of the plain functions on scales. No condition. -/
import Derived.Test.YthnjiiodpjielaaNum
import Derived.BigQuiet
import Derived.Deep.QuietTactic
import Derived.StillTailTactics
import Derived.Outline
namespace Go.Proofs.Ythnjiiodpjielaa
open Go.RowKit

set_option maxHeartbeats 400000 in
theorem toSetting_any (a b : Int) (w : World) :
    Calls Try.prog 56 #[.agg #[.int .i64 a, .int .i64 b]] w fun e w' => e = .returned (.agg #[.int .i64 a, .int .i64 b]) ∧
      ((w.alloc (.cells #[.int .i64 a, .int .i64 b] 81)).alloc (.cells #[.int .i64 a, .int .i64 b] 86)).alloc (.cells #[.int .i64 a, .int .i64 b] 86) = w' := by
  go_enter Try.func56, Try.ntmps56
  go_wp2
  exact bodyPost_ret (v := .agg #[.int .i64 a, .int .i64 b]) (by simp [results, Try.results56, go_sem]) rfl ⟨rfl, rfl⟩

def areErrorsB (a b c : Int) : Bool := inB a 0 200 && inB b 0 200 && inB c 0 200
theorem areErrorsB_iff {a b c : Int} : areErrorsB a b c = true ↔ (0 ≤ a ∧ a ≤ 200) ∧ (0 ≤ b ∧ b ≤ 200) ∧ 0 ≤ c ∧ c ≤ 200 := by
  simp [areErrorsB, inB_iff, and_assoc]
set_option maxHeartbeats 400000 in
theorem iAreErrors_any (a b c : Int) (w : World) :
    Calls Try.prog 110 #[.agg #[.int .i64 a, .int .i64 b, .int .i64 c]] w fun e w' => e = .returned (.bool (areErrorsB a b c)) ∧ (w.alloc (.cells #[.int .i64 a, .int .i64 b, .int .i64 c] 66)) = w' := by
  go_enter Try.func110, Try.ntmps110
  go_wp2_with (go_at_call 66; refine (within_any _ _ _ _).mono ?_; rintro e w' ⟨rfl, rfl⟩)
  all_goals go_ret
  all_goals (refine ⟨endBool ?_, rfl⟩)
  all_goals simp_all [areErrorsB]
set_option maxHeartbeats 400000 in
theorem l10Eye_any (n : Int) (w : World) :
    Calls Try.prog 160 #[.int .i64 n] w fun e w' => e = .returned (.bool (inB n 0 200)) ∧ w = w' := by
  go_enter Try.func160, Try.ntmps160
  go_wp2_with (go_at_call 70; refine (l01In_any _ _ _ _).mono ?_; rintro e w' ⟨rfl, rfl⟩)
  go_ret
  exact ⟨rfl, rfl⟩
set_option maxHeartbeats 400000 in
theorem sAreErrors_any (a b c : Int) (w : World) :
    Calls Try.prog 113 #[.agg #[.int .i64 a, .int .i64 b, .int .i64 c]] w fun e w' => e = .returned (.bool (areErrorsB a b c)) ∧ (w.alloc (.cells #[.int .i64 a, .int .i64 b, .int .i64 c] 66)) = w' := by
  go_enter Try.func113, Try.ntmps113
  go_wp2_with (go_at_call 160; refine (l10Eye_any _ _).mono ?_; rintro e w' ⟨rfl, rfl⟩)
  all_goals go_ret
  all_goals (refine ⟨endBool ?_, rfl⟩)
  all_goals simp_all [areErrorsB]
set_option maxHeartbeats 400000 in
theorem totalError_any (a b c : Int) (w : World) (h1 : 0 ≤ a) (h2 : a ≤ 200) (h3 : 0 ≤ b) (h4 : b ≤ 200) (h5 : 0 ≤ c) (h6 : c ≤ 200) :
    Calls Try.prog 159 #[.agg #[.int .i64 a, .int .i64 b, .int .i64 c]] w fun e w' => e = .returned (.int .i64 (2 * a + b + c)) ∧ (w.alloc (.cells #[.int .i64 a, .int .i64 b, .int .i64 c] 66)) = w' := by
  go_enter Try.func159, Try.ntmps159
  go_wp2
  go_ret
  exact ⟨rfl, rfl⟩
set_option maxHeartbeats 400000 in
theorem l10Total_any (a b c : Int) (w : World) (h1 : 0 ≤ a) (h2 : a ≤ 200) (h3 : 0 ≤ b) (h4 : b ≤ 200) (h5 : 0 ≤ c) (h6 : c ≤ 200) :
    Calls Try.prog 192 #[.agg #[.int .i64 a, .int .i64 b, .int .i64 c]] w fun e w' => e = .returned (.int .i64 (2 * a + b + c)) ∧ (w.alloc (.cells #[.int .i64 a, .int .i64 b, .int .i64 c] 66)) = w' := by
  go_enter Try.func192, Try.ntmps192
  go_wp2
  go_ret
  exact ⟨rfl, rfl⟩

def rTotal (a b c : Int) : Int × Int := if areErrorsB a b c = true then (2 * a + b + c, 0) else (0, 1)
end Go.Proofs.Ythnjiiodpjielaa
