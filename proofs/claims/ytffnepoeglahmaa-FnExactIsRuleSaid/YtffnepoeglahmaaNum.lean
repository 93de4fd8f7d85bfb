/- Walks of the functions on numbers (layer 1): quotients, remainders, powers of ten. No condition. -/
import Derived.Test.YtffnepoeglahmaaProg
import Derived.Test.YtffnepoeglahmaaOpen
import Derived.Test.YtffnepoeglahmaaMath2
namespace Go.Proofs.Ytffnepoeglahmaa
open Go.RowKit

set_option maxHeartbeats 400000 in
theorem within_any (n lo hi : Int) (w : World) :
    Calls Try.prog 59 #[.int .i64 n, .int .i64 lo, .int .i64 hi] w fun e w' => e = .returned (.bool (inB n lo hi)) ∧ w = w' := by
  go_enter Try.func59, Try.ntmps59
  go_wp2
  all_goals go_ret
  all_goals (refine ⟨endBool ?_, rfl⟩)
  all_goals (simp [inB]; try omega)
set_option maxHeartbeats 400000 in
theorem l01In_any (n lo hi : Int) (w : World) :
    Calls Try.prog 54 #[.int .i64 n, .int .i64 lo, .int .i64 hi] w fun e w' => e = .returned (.bool (inB n lo hi)) ∧ w = w' := by
  go_enter Try.func54, Try.ntmps54
  go_wp2
  all_goals go_ret
  all_goals (refine ⟨endBool ?_, rfl⟩)
  all_goals (simp [inB]; try omega)

set_option maxHeartbeats 400000 in
theorem isValue_any (n : Int) (w : World) :
    Calls Try.prog 91 #[.int .i64 n] w fun e w' => e = .returned (.bool (inB n (-1000000000000) 1000000000000)) ∧ w = w' := by
  go_enter Try.func91, Try.ntmps91
  go_wp2
  all_goals go_ret
  all_goals (refine ⟨endBool ?_, rfl⟩)
  all_goals (simp [inB]; try omega)
set_option maxHeartbeats 400000 in
theorem l01Is_any (n : Int) (w : World) :
    Calls Try.prog 72 #[.int .i64 n] w fun e w' => e = .returned (.bool (inB n (-1000000000000) 1000000000000)) ∧ w = w' := by
  go_enter Try.func72, Try.ntmps72
  go_wp2_with (go_at_call 54; refine (l01In_any _ _ _ _).mono ?_; rintro e w' ⟨rfl, rfl⟩)
  go_ret
  exact ⟨rfl, rfl⟩

set_option maxHeartbeats 400000 in
theorem down_any (a b : Int) (w : World) (h1 : 0 < b) (h2 : b ≤ 4611686018427387904) (h3 : -4611686018427387904 ≤ a) (h4 : a ≤ 4611686018427387904) :
    Calls Try.prog 87 #[.int .i64 a, .int .i64 b] w fun e w' => e = .returned (.int .i64 (a / b)) ∧ w = w' := by
  have d1 : decide (b < 0) = false := by simp; omega
  by_cases ha : 0 ≤ a
  · have d2 : decide (a < 0) = false := by simp; omega
    go_enter Try.func87, Try.ntmps87
    go_wp2
    all_goals go_ret
    all_goals (refine ⟨endInt ?_, rfl⟩)
    all_goals simp_all
  · have d2 : decide (a < 0) = true := by simp; omega
    have hf := Lib.hid (floor_neg a b h1 (by omega))
    have hq := Int.tdiv_nonneg (a := -a) (b := b) (by omega) (by omega)
    have hq' : (-a).tdiv b ≤ -a := Int.tdiv_le_self _ (by omega)
    rw [Int.neg_tdiv] at hq hq'
    go_enter Try.func87, Try.ntmps87
    go_wp2
    all_goals go_ret
    all_goals (refine ⟨endInt ?_, rfl⟩)
    all_goals rw [hf.out]
    · rw [if_pos (by assumption)]
    · rw [if_neg (by assumption)]
set_option maxHeartbeats 400000 in
theorem up_any (a b : Int) (w : World) (h1 : 0 < b) (h2 : b ≤ 4611686018427387904) (h3 : -4611686018427387904 ≤ a) (h4 : a ≤ 4611686018427387904) :
    Calls Try.prog 60 #[.int .i64 a, .int .i64 b] w fun e w' => e = .returned (.int .i64 (ceilDiv a b)) ∧ w = w' := by
  have hq := ediv_bd (a := -a) (M := 4611686018427387904) h1 (by omega) (by omega) (by omega)
  go_enter Try.func60, Try.ntmps60
  go_wp2_with (go_at_call 87; refine (down_any _ _ _ h1 h2 (by omega) (by omega)).mono ?_; rintro e w' ⟨rfl, rfl⟩)
  go_ret
  exact ⟨rfl, rfl⟩
set_option maxHeartbeats 400000 in
theorem l01Floor_any (a b : Int) (w : World) (h1 : 0 < b) (h2 : b ≤ 4611686018427387904) (h3 : -4611686018427387904 ≤ a) (h4 : a ≤ 4611686018427387904) :
    Calls Try.prog 86 #[.int .i64 a, .int .i64 b] w fun e w' => e = .returned (.int .i64 (a / b)) ∧ w = w' := by
  have d1 : decide (b < 0) = false := by simp; omega
  by_cases ha : 0 ≤ a
  · go_enter Try.func86, Try.ntmps86
    go_wp2
    all_goals go_ret
    all_goals (refine ⟨endInt ?_, rfl⟩)
    · exfalso
      have := Int.emod_nonneg a (show b ≠ 0 by omega)
      omega
    · rfl
  · have hf := Lib.hid (floor_neg a b h1 (by omega))
    have hm : a.tmod b ≤ 0 := by
      have := Int.tmod_nonneg b (a := -a) (by omega)
      rw [Int.neg_tmod] at this
      omega
    have hq := Int.tdiv_nonneg (a := -a) (b := b) (by omega) (by omega)
    have hq' : (-a).tdiv b ≤ -a := Int.tdiv_le_self _ (by omega)
    rw [Int.neg_tdiv] at hq hq'
    go_enter Try.func86, Try.ntmps86
    go_wp2
    all_goals go_ret
    all_goals (refine ⟨endInt ?_, rfl⟩)
    all_goals rw [hf.out]
    · rw [if_neg (by omega)]
    · rw [if_pos (by omega)]
set_option maxHeartbeats 400000 in
theorem l01Ceil_any (a b : Int) (w : World) (h1 : 0 < b) (h2 : b ≤ 4611686018427387904) (h3 : -4611686018427387904 ≤ a) (h4 : a ≤ 4611686018427387904) :
    Calls Try.prog 58 #[.int .i64 a, .int .i64 b] w fun e w' => e = .returned (.int .i64 (ceilDiv a b)) ∧ w = w' := by
  have hq := ediv_bd (a := -a) (M := 4611686018427387904) h1 (by omega) (by omega) (by omega)
  go_enter Try.func58, Try.ntmps58
  go_wp2_with (go_at_call 86; refine (l01Floor_any _ _ _ h1 h2 (by omega) (by omega)).mono ?_; rintro e w' ⟨rfl, rfl⟩)
  go_ret
  exact ⟨rfl, rfl⟩
set_option maxHeartbeats 400000 in
theorem l01Abs_any (n : Int) (w : World) (h1 : -9223372036854775807 ≤ n) (h2 : n ≤ 9223372036854775807) :
    Calls Try.prog 82 #[.int .i64 n] w fun e w' => e = .returned (.int .i64 (max n (-n))) ∧ w = w' := by
  go_enter Try.func82, Try.ntmps82
  go_wp2
  all_goals go_ret
  all_goals (refine ⟨endInt ?_, rfl⟩)
  all_goals omega
set_option maxHeartbeats 400000 in
theorem distance_any (a b : Int) (w : World) (h1 : -4000000000000000000 ≤ a) (h2 : a ≤ 4000000000000000000) (h3 : -4000000000000000000 ≤ b) (h4 : b ≤ 4000000000000000000) :
    Calls Try.prog 83 #[.int .i64 a, .int .i64 b] w fun e w' => e = .returned (.int .i64 (max (a - b) (-(a - b)))) ∧ w = w' := by
  go_enter Try.func83, Try.ntmps83
  go_wp2
  all_goals go_ret
  all_goals (refine ⟨endInt ?_, rfl⟩)
  all_goals omega
end Go.Proofs.Ytffnepoeglahmaa
