/- Walks of the functions on numbers (layer 1): quotients, remainders, powers of ten. No condition. -/
import Derived.Test.YthnjiiodpjielaaProg
import Derived.Test.YthnjiiodpjielaaOpen
import Derived.Test.YthnjiiodpjielaaMath2
namespace Go.Proofs.Ythnjiiodpjielaa
open Go.RowKit

set_option maxHeartbeats 400000 in
theorem within_any (n lo hi : Int) (w : World) :
    Calls Try.prog 66 #[.int .i64 n, .int .i64 lo, .int .i64 hi] w fun e w' => e = .returned (.bool (inB n lo hi)) ∧ w = w' := by
  go_enter Try.func66, Try.ntmps66
  go_wp2
  all_goals go_ret
  all_goals (refine ⟨endBool ?_, rfl⟩)
  all_goals (simp [inB]; try omega)
set_option maxHeartbeats 400000 in
theorem l01In_any (n lo hi : Int) (w : World) :
    Calls Try.prog 70 #[.int .i64 n, .int .i64 lo, .int .i64 hi] w fun e w' => e = .returned (.bool (inB n lo hi)) ∧ w = w' := by
  go_enter Try.func70, Try.ntmps70
  go_wp2
  all_goals go_ret
  all_goals (refine ⟨endBool ?_, rfl⟩)
  all_goals (simp [inB]; try omega)


set_option maxHeartbeats 400000 in
theorem down_any (a b : Int) (w : World) (h1 : 0 < b) (h2 : b ≤ 4611686018427387904) (h3 : -4611686018427387904 ≤ a) (h4 : a ≤ 4611686018427387904) :
    Calls Try.prog 141 #[.int .i64 a, .int .i64 b] w fun e w' => e = .returned (.int .i64 (a / b)) ∧ w = w' := by
  have d1 : decide (b < 0) = false := by simp; omega
  by_cases ha : 0 ≤ a
  · have d2 : decide (a < 0) = false := by simp; omega
    go_enter Try.func141, Try.ntmps141
    go_wp2
    all_goals go_ret
    all_goals (refine ⟨endInt ?_, rfl⟩)
    all_goals simp_all
  · have d2 : decide (a < 0) = true := by simp; omega
    have hf := Lib.hid (floor_neg a b h1 (by omega))
    have hq := Int.tdiv_nonneg (a := -a) (b := b) (by omega) (by omega)
    have hq' : (-a).tdiv b ≤ -a := Int.tdiv_le_self _ (by omega)
    rw [Int.neg_tdiv] at hq hq'
    go_enter Try.func141, Try.ntmps141
    go_wp2
    all_goals go_ret
    all_goals (refine ⟨endInt ?_, rfl⟩)
    all_goals rw [hf.out]
    · rw [if_pos (by assumption)]
    · rw [if_neg (by assumption)]
set_option maxHeartbeats 400000 in
theorem up_any (a b : Int) (w : World) (h1 : 0 < b) (h2 : b ≤ 4611686018427387904) (h3 : -4611686018427387904 ≤ a) (h4 : a ≤ 4611686018427387904) :
    Calls Try.prog 120 #[.int .i64 a, .int .i64 b] w fun e w' => e = .returned (.int .i64 (ceilDiv a b)) ∧ w = w' := by
  have hq := ediv_bd (a := -a) (M := 4611686018427387904) h1 (by omega) (by omega) (by omega)
  go_enter Try.func120, Try.ntmps120
  go_wp2_with (go_at_call 141; refine (down_any _ _ _ h1 h2 (by omega) (by omega)).mono ?_; rintro e w' ⟨rfl, rfl⟩)
  go_ret
  exact ⟨rfl, rfl⟩
set_option maxHeartbeats 400000 in
theorem l01Floor_any (a b : Int) (w : World) (h1 : 0 < b) (h2 : b ≤ 4611686018427387904) (h3 : -4611686018427387904 ≤ a) (h4 : a ≤ 4611686018427387904) :
    Calls Try.prog 144 #[.int .i64 a, .int .i64 b] w fun e w' => e = .returned (.int .i64 (a / b)) ∧ w = w' := by
  have d1 : decide (b < 0) = false := by simp; omega
  by_cases ha : 0 ≤ a
  · go_enter Try.func144, Try.ntmps144
    go_wp2
    all_goals go_ret
    all_goals (refine ⟨endInt ?_, rfl⟩)
    · exfalso
      have := Int.emod_nonneg a (show b ≠ 0 by omega)
      omega
    · rfl
  · have hf := Lib.hid (floor_neg a b h1 (by omega))
    have hm : a.tmod b ≤ 0 := by
      have := Int.tmod_nonneg b (a := -a) (by omega)
      rw [Int.neg_tmod] at this
      omega
    have hq := Int.tdiv_nonneg (a := -a) (b := b) (by omega) (by omega)
    have hq' : (-a).tdiv b ≤ -a := Int.tdiv_le_self _ (by omega)
    rw [Int.neg_tdiv] at hq hq'
    go_enter Try.func144, Try.ntmps144
    go_wp2
    all_goals go_ret
    all_goals (refine ⟨endInt ?_, rfl⟩)
    all_goals rw [hf.out]
    · rw [if_neg (by omega)]
    · rw [if_pos (by omega)]
set_option maxHeartbeats 400000 in
theorem l01Ceil_any (a b : Int) (w : World) (h1 : 0 < b) (h2 : b ≤ 4611686018427387904) (h3 : -4611686018427387904 ≤ a) (h4 : a ≤ 4611686018427387904) :
    Calls Try.prog 121 #[.int .i64 a, .int .i64 b] w fun e w' => e = .returned (.int .i64 (ceilDiv a b)) ∧ w = w' := by
  have hq := ediv_bd (a := -a) (M := 4611686018427387904) h1 (by omega) (by omega) (by omega)
  go_enter Try.func121, Try.ntmps121
  go_wp2_with (go_at_call 144; refine (l01Floor_any _ _ _ h1 h2 (by omega) (by omega)).mono ?_; rintro e w' ⟨rfl, rfl⟩)
  go_ret
  exact ⟨rfl, rfl⟩
set_option maxHeartbeats 400000 in
theorem l01Abs_any (n : Int) (w : World) (h1 : -9223372036854775807 ≤ n) (h2 : n ≤ 9223372036854775807) :
    Calls Try.prog 136 #[.int .i64 n] w fun e w' => e = .returned (.int .i64 (max n (-n))) ∧ w = w' := by
  go_enter Try.func136, Try.ntmps136
  go_wp2
  all_goals go_ret
  all_goals (refine ⟨endInt ?_, rfl⟩)
  all_goals omega
set_option maxHeartbeats 400000 in
theorem distance_any (a b : Int) (w : World) (h1 : -4000000000000000000 ≤ a) (h2 : a ≤ 4000000000000000000) (h3 : -4000000000000000000 ≤ b) (h4 : b ≤ 4000000000000000000) :
    Calls Try.prog 133 #[.int .i64 a, .int .i64 b] w fun e w' => e = .returned (.int .i64 (max (a - b) (-(a - b)))) ∧ w = w' := by
  go_enter Try.func133, Try.ntmps133
  go_wp2
  all_goals go_ret
  all_goals (refine ⟨endInt ?_, rfl⟩)
  all_goals omega
set_option maxHeartbeats 400000 in
theorem modulo_any (a b : Int) (w : World) (h1 : 0 < b) (h2 : b ≤ 1000000000000) (h3 : -1000000000000 ≤ a) (h4 : a ≤ 1000000000000) :
    Calls Try.prog 183 #[.int .i64 a, .int .i64 b] w fun e w' => e = .returned (.int .i64 (a % b)) ∧ w = w' := by
  have hm := Int.mul_ediv_add_emod a b
  have hm1 := Int.emod_nonneg a (show b ≠ 0 by omega)
  have hm2 := Int.emod_lt_of_pos a h1
  have hb1 : -2000000000000 ≤ b * (a / b) := by omega
  have hb2 : b * (a / b) ≤ 2000000000000 := by omega
  have Hm := Lib.hid hm
  clear hm
  go_enter Try.func183, Try.ntmps183
  go_wp2_with (go_at_call 141; refine (down_any _ _ _ h1 (by omega) (by omega) (by omega)).mono ?_; rintro e w' ⟨rfl, rfl⟩)
  go_ret
  refine ⟨endInt ?_, rfl⟩
  have := Hm.out
  omega
set_option maxHeartbeats 400000 in
theorem l01Mod_any (a b : Int) (w : World) (h1 : 0 < b) (h2 : b ≤ 1000000000000) :
    Calls Try.prog 145 #[.int .i64 a, .int .i64 b] w fun e w' => e = .returned (.int .i64 (a % b)) ∧ w = w' := by
  have ht := tmod_bd a h1
  have hm := Lib.hid (tmod_mod a b)
  go_enter Try.func145, Try.ntmps145
  go_wp2
  go_ret
  exact ⟨endInt hm.out, rfl⟩
set_option maxHeartbeats 400000 in
theorem ten_any (n : Int) (w : World) (h1 : 0 ≤ n) (h2 : n ≤ 12) :
    Calls Try.prog 148 #[.int .i64 n] w fun e w' => e = .returned (.int .i64 (p10 n.toNat)) ∧ w = w' := by
  obtain ⟨m, rfl⟩ := Int.eq_ofNat_of_zero_le h1
  rw [Int.toNat_natCast]
  go_enter Try.func148, Try.ntmps148
  go_wp2
  go_loop [3, 5] (fun o i => ∃ k : Nat, k ≤ m ∧ o = .int .i64 (p10 k) ∧ i = .int .i64 k) (fun _ i => m - (intOf i).toNat)
  case atStart => exact ⟨0, by omega, rfl, rfl⟩
  case round =>
    obtain ⟨k, hk, rfl, rfl⟩ := hrel
    have hp := p10_le (k := k) (by omega)
    have hp1 := p10_pos k
    by_cases hlt : k < m
    · have Hs := Lib.hid (p10_succ k)
      go_wp2
      go_round
      case rel => exact ⟨k + 1, by omega, by rw [Hs.out], by go_num⟩
      case measure => simp [intOf]; omega
    · obtain rfl : k = m := by omega
      go_wp2
      go_ret
      exact ⟨rfl, rfl⟩
set_option maxHeartbeats 400000 in
theorem l01Ten_any (n : Int) (w : World) (h1 : 0 ≤ n) (h2 : n ≤ 12) :
    Calls Try.prog 117 #[.int .i64 n] w fun e w' => e = .returned (.int .i64 (p10 n.toNat)) ∧ w = w' := by
  obtain ⟨m, rfl⟩ := Int.eq_ofNat_of_zero_le h1
  rw [Int.toNat_natCast]
  go_enter Try.func117, Try.ntmps117
  go_wp2
  go_loop [0, 3] (fun i o => ∃ k : Nat, k ≤ m ∧ o = .int .i64 (p10 k) ∧ i = .int .i64 ((m : Int) - (k : Int))) (fun i _ => (intOf i).toNat)
  case atStart => exact ⟨0, by omega, rfl, by simp⟩
  case round =>
    obtain ⟨k, hk, rfl, rfl⟩ := hrel
    have hp := p10_le (k := k) (by omega)
    have hp1 := p10_pos k
    by_cases hlt : k < m
    · have Hs := Lib.hid (p10_succ k)
      go_wp2
      go_round
      case rel => exact ⟨k + 1, by omega, by rw [Hs.out, Int.mul_comm], by go_num⟩
      case measure => simp [intOf]; omega
    · obtain rfl : k = m := by omega
      go_wp2
      go_ret
      exact ⟨rfl, rfl⟩
end Go.Proofs.Ythnjiiodpjielaa
