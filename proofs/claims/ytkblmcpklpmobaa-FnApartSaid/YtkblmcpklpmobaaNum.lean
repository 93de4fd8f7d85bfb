/- Walks of the functions on numbers (layer 1): quotients, remainders, powers of ten. No condition. -/
import Derived.Test.YtkblmcpklpmobaaProg
import Derived.Test.YtkblmcpklpmobaaOpen
import Derived.Test.YtkblmcpklpmobaaMath2
namespace Go.Proofs.Ytkblmcpklpmobaa
open Go.RowKit

set_option maxHeartbeats 400000 in
theorem within_any (n lo hi : Int) (w : World) :
    Calls Try.prog 77 #[.int .i64 n, .int .i64 lo, .int .i64 hi] w fun e w' => e = .returned (.bool (inB n lo hi)) ∧ w = w' := by
  go_enter Try.func77, Try.ntmps77
  go_wp2
  all_goals go_ret
  all_goals (refine ⟨endBool ?_, rfl⟩)
  all_goals (simp [inB]; try omega)
set_option maxHeartbeats 400000 in
theorem l01In_any (n lo hi : Int) (w : World) :
    Calls Try.prog 68 #[.int .i64 n, .int .i64 lo, .int .i64 hi] w fun e w' => e = .returned (.bool (inB n lo hi)) ∧ w = w' := by
  go_enter Try.func68, Try.ntmps68
  go_wp2
  all_goals go_ret
  all_goals (refine ⟨endBool ?_, rfl⟩)
  all_goals (simp [inB]; try omega)

set_option maxHeartbeats 400000 in
theorem isValue_any (n : Int) (w : World) :
    Calls Try.prog 101 #[.int .i64 n] w fun e w' => e = .returned (.bool (inB n (-1000000000000) 1000000000000)) ∧ w = w' := by
  go_enter Try.func101, Try.ntmps101
  go_wp2
  all_goals go_ret
  all_goals (refine ⟨endBool ?_, rfl⟩)
  all_goals (simp [inB]; try omega)
set_option maxHeartbeats 400000 in
theorem l01Is_any (n : Int) (w : World) :
    Calls Try.prog 76 #[.int .i64 n] w fun e w' => e = .returned (.bool (inB n (-1000000000000) 1000000000000)) ∧ w = w' := by
  go_enter Try.func76, Try.ntmps76
  go_wp2_with (go_at_call 68; refine (l01In_any _ _ _ _).mono ?_; rintro e w' ⟨rfl, rfl⟩)
  go_ret
  exact ⟨rfl, rfl⟩

set_option maxHeartbeats 400000 in
theorem down_any (a b : Int) (w : World) (h1 : 0 < b) (h2 : b ≤ 4611686018427387904) (h3 : -4611686018427387904 ≤ a) (h4 : a ≤ 4611686018427387904) :
    Calls Try.prog 133 #[.int .i64 a, .int .i64 b] w fun e w' => e = .returned (.int .i64 (a / b)) ∧ w = w' := by
  have d1 : decide (b < 0) = false := by simp; omega
  by_cases ha : 0 ≤ a
  · have d2 : decide (a < 0) = false := by simp; omega
    go_enter Try.func133, Try.ntmps133
    go_wp2
    all_goals go_ret
    all_goals (refine ⟨endInt ?_, rfl⟩)
    all_goals simp_all
  · have d2 : decide (a < 0) = true := by simp; omega
    have hf := Lib.hid (floor_neg a b h1 (by omega))
    have hq := Int.tdiv_nonneg (a := -a) (b := b) (by omega) (by omega)
    have hq' : (-a).tdiv b ≤ -a := Int.tdiv_le_self _ (by omega)
    rw [Int.neg_tdiv] at hq hq'
    go_enter Try.func133, Try.ntmps133
    go_wp2
    all_goals go_ret
    all_goals (refine ⟨endInt ?_, rfl⟩)
    all_goals rw [hf.out]
    · rw [if_pos (by assumption)]
    · rw [if_neg (by assumption)]
set_option maxHeartbeats 400000 in
theorem up_any (a b : Int) (w : World) (h1 : 0 < b) (h2 : b ≤ 4611686018427387904) (h3 : -4611686018427387904 ≤ a) (h4 : a ≤ 4611686018427387904) :
    Calls Try.prog 143 #[.int .i64 a, .int .i64 b] w fun e w' => e = .returned (.int .i64 (ceilDiv a b)) ∧ w = w' := by
  have hq := ediv_bd (a := -a) (M := 4611686018427387904) h1 (by omega) (by omega) (by omega)
  go_enter Try.func143, Try.ntmps143
  go_wp2_with (go_at_call 133; refine (down_any _ _ _ h1 h2 (by omega) (by omega)).mono ?_; rintro e w' ⟨rfl, rfl⟩)
  go_ret
  exact ⟨rfl, rfl⟩
set_option maxHeartbeats 400000 in
theorem l01Floor_any (a b : Int) (w : World) (h1 : 0 < b) (h2 : b ≤ 4611686018427387904) (h3 : -4611686018427387904 ≤ a) (h4 : a ≤ 4611686018427387904) :
    Calls Try.prog 109 #[.int .i64 a, .int .i64 b] w fun e w' => e = .returned (.int .i64 (a / b)) ∧ w = w' := by
  have d1 : decide (b < 0) = false := by simp; omega
  by_cases ha : 0 ≤ a
  · go_enter Try.func109, Try.ntmps109
    go_wp2
    all_goals go_ret
    all_goals (refine ⟨endInt ?_, rfl⟩)
    · exfalso
      have := Int.emod_nonneg a (show b ≠ 0 by omega)
      omega
    · rfl
  · have hf := Lib.hid (floor_neg a b h1 (by omega))
    have hm : a.tmod b ≤ 0 := by
      have := Int.tmod_nonneg b (a := -a) (by omega)
      rw [Int.neg_tmod] at this
      omega
    have hq := Int.tdiv_nonneg (a := -a) (b := b) (by omega) (by omega)
    have hq' : (-a).tdiv b ≤ -a := Int.tdiv_le_self _ (by omega)
    rw [Int.neg_tdiv] at hq hq'
    go_enter Try.func109, Try.ntmps109
    go_wp2
    all_goals go_ret
    all_goals (refine ⟨endInt ?_, rfl⟩)
    all_goals rw [hf.out]
    · rw [if_neg (by omega)]
    · rw [if_pos (by omega)]
set_option maxHeartbeats 400000 in
theorem l01Ceil_any (a b : Int) (w : World) (h1 : 0 < b) (h2 : b ≤ 4611686018427387904) (h3 : -4611686018427387904 ≤ a) (h4 : a ≤ 4611686018427387904) :
    Calls Try.prog 127 #[.int .i64 a, .int .i64 b] w fun e w' => e = .returned (.int .i64 (ceilDiv a b)) ∧ w = w' := by
  have hq := ediv_bd (a := -a) (M := 4611686018427387904) h1 (by omega) (by omega) (by omega)
  go_enter Try.func127, Try.ntmps127
  go_wp2_with (go_at_call 109; refine (l01Floor_any _ _ _ h1 h2 (by omega) (by omega)).mono ?_; rintro e w' ⟨rfl, rfl⟩)
  go_ret
  exact ⟨rfl, rfl⟩
set_option maxHeartbeats 400000 in
theorem l01Abs_any (n : Int) (w : World) (h1 : -9223372036854775807 ≤ n) (h2 : n ≤ 9223372036854775807) :
    Calls Try.prog 71 #[.int .i64 n] w fun e w' => e = .returned (.int .i64 (max n (-n))) ∧ w = w' := by
  go_enter Try.func71, Try.ntmps71
  go_wp2
  all_goals go_ret
  all_goals (refine ⟨endInt ?_, rfl⟩)
  all_goals omega
set_option maxHeartbeats 400000 in
theorem distance_any (a b : Int) (w : World) (h1 : -4000000000000000000 ≤ a) (h2 : a ≤ 4000000000000000000) (h3 : -4000000000000000000 ≤ b) (h4 : b ≤ 4000000000000000000) :
    Calls Try.prog 70 #[.int .i64 a, .int .i64 b] w fun e w' => e = .returned (.int .i64 (max (a - b) (-(a - b)))) ∧ w = w' := by
  go_enter Try.func70, Try.ntmps70
  go_wp2
  all_goals go_ret
  all_goals (refine ⟨endInt ?_, rfl⟩)
  all_goals omega
set_option maxHeartbeats 400000 in
theorem modulo_any (a b : Int) (w : World) (h1 : 0 < b) (h2 : b ≤ 1000000000000) (h3 : -1000000000000 ≤ a) (h4 : a ≤ 1000000000000) :
    Calls Try.prog 150 #[.int .i64 a, .int .i64 b] w fun e w' => e = .returned (.int .i64 (a % b)) ∧ w = w' := by
  have hm := Int.mul_ediv_add_emod a b
  have hm1 := Int.emod_nonneg a (show b ≠ 0 by omega)
  have hm2 := Int.emod_lt_of_pos a h1
  have hb1 : -2000000000000 ≤ b * (a / b) := by omega
  have hb2 : b * (a / b) ≤ 2000000000000 := by omega
  have Hm := Lib.hid hm
  clear hm
  go_enter Try.func150, Try.ntmps150
  go_wp2_with (go_at_call 133; refine (down_any _ _ _ h1 (by omega) (by omega) (by omega)).mono ?_; rintro e w' ⟨rfl, rfl⟩)
  go_ret
  refine ⟨endInt ?_, rfl⟩
  have := Hm.out
  omega
set_option maxHeartbeats 400000 in
theorem l01Mod_any (a b : Int) (w : World) (h1 : 0 < b) (h2 : b ≤ 1000000000000) :
    Calls Try.prog 129 #[.int .i64 a, .int .i64 b] w fun e w' => e = .returned (.int .i64 (a % b)) ∧ w = w' := by
  have ht := tmod_bd a h1
  have hm := Lib.hid (tmod_mod a b)
  go_enter Try.func129, Try.ntmps129
  go_wp2
  go_ret
  exact ⟨endInt hm.out, rfl⟩
end Go.Proofs.Ytkblmcpklpmobaa
