/- Walks of the plain functions on scales and lengths, and of the units of errors (layers 5, 10). No condition. -/
import Derived.Test.YtibcbhphkafgjaaDoorErr
namespace Go.Proofs.YtibcbhphkafgjaaDoor
open Go.RowKit
set_option linter.unusedVariables false

set_option maxHeartbeats 400000 in
theorem isLength_any (n : Int) (w : World) :
    Calls Tryd.prog 56 #[.int .i64 n] w fun e w' => e = .returned (.bool (inB n 1 100000)) ∧ w = w' := by
  go_enter Tryd.func56, Tryd.ntmps56
  go_wp2_with (go_at_call 71; refine (within_any _ _ _ _).mono ?_; rintro e w' ⟨rfl, rfl⟩)
  go_ret
  exact ⟨rfl, rfl⟩
set_option maxHeartbeats 400000 in
theorem l05Length_any (n : Int) (w : World) :
    Calls Tryd.prog 52 #[.int .i64 n] w fun e w' => e = .returned (.bool (inB n 1 100000)) ∧ w = w' := by
  go_enter Tryd.func52, Tryd.ntmps52
  go_wp2_with (go_at_call 48; refine (l01In_any _ _ _ _).mono ?_; rintro e w' ⟨rfl, rfl⟩)
  go_ret
  exact ⟨rfl, rfl⟩
set_option maxHeartbeats 400000 in
theorem iIsScale_any (n : Int) (w : World) :
    Calls Tryd.prog 72 #[.int .i64 n] w fun e w' => e = .returned (.bool (inB n 0 5)) ∧ w = w' := by
  go_enter Tryd.func72, Tryd.ntmps72
  go_wp2_with (go_at_call 71; refine (within_any _ _ _ _).mono ?_; rintro e w' ⟨rfl, rfl⟩)
  go_ret
  exact ⟨rfl, rfl⟩
set_option maxHeartbeats 400000 in
theorem sIsScale_any (n : Int) (w : World) :
    Calls Tryd.prog 82 #[.int .i64 n] w fun e w' => e = .returned (.bool (inB n 0 5)) ∧ w = w' := by
  go_enter Tryd.func82, Tryd.ntmps82
  go_wp2_with (go_at_call 48; refine (l01In_any _ _ _ _).mono ?_; rintro e w' ⟨rfl, rfl⟩)
  go_ret
  exact ⟨rfl, rfl⟩

def errScaleB (s : Int) : Bool := inB s 0 5 && (s != 5)
theorem errScaleB_iff {s : Int} : errScaleB s = true ↔ 0 ≤ s ∧ s ≤ 4 := by
  simp [errScaleB, inB_iff]
  omega
set_option maxHeartbeats 400000 in
theorem l10Scale_any (s : Int) (w : World) :
    Calls Tryd.prog 68 #[.int .i64 s] w fun e w' => e = .returned (.bool (errScaleB s)) ∧ w = w' := by
  go_enter Tryd.func68, Tryd.ntmps68
  go_wp2_with (go_at_call 82; refine (sIsScale_any _ _).mono ?_; rintro e w' ⟨rfl, rfl⟩)
  all_goals go_ret
  all_goals (refine ⟨endBool ?_, rfl⟩)
  all_goals simp_all [errScaleB]

/-- what errors need, in units of a rule of length 1 -/
def errNeed (s a b c : Int) : Int := (2 * a + b + c) * 1048576 * decades s
theorem errNeed_bd {s a b c : Int} (h1 : 0 ≤ a) (h2 : a ≤ 200) (h3 : 0 ≤ b) (h4 : b ≤ 200) (h5 : 0 ≤ c) (h6 : c ≤ 200) : 0 ≤ (2 * a + b + c) * 1048576 * decades s ∧ (2 * a + b + c) * 1048576 * decades s ≤ 2516582400 := by
  unfold decades
  split
  · omega
  · split <;> omega
def errU (s l a b c : Int) : Int := ceilDiv ((2 * a + b + c) * 1048576 * decades s) l
def rUnits (s l a b c : Int) : Int × Int := if areErrorsB a b c = true then (if (errScaleB s && inB l 1 100000) = true then (errU s l a b c, 0) else (0, 2)) else (0, 1)
end Go.Proofs.YtibcbhphkafgjaaDoor
