/- RelativeError of the reference, ReadError (layers 2 and 6). No condition. -/
import Derived.Test.YthnjiiodpjielaaRel
import Derived.Test.YthnjiiodpjielaaRd2
namespace Go.Proofs.Ythnjiiodpjielaa
open Go.RowKit
set_option linter.unusedVariables false
set_option linter.unusedSimpArgs false

def relX (da ta db tb : Int) : Int := if 2 ≤ ta - tb then 9000001 else if ta - tb ≤ -7 then 1000000 else relOut da db (ta - tb)
theorem rRel_X {da ta db tb : Int} : rRel da ta db tb = if 9000000 < relX da ta db tb then (0, 3) else (relX da ta db tb, 0) := by
  unfold rRel relX
  by_cases h1 : 2 ≤ ta - tb
  · rw [if_pos h1, if_pos h1]; rfl
  · rw [if_neg h1, if_neg h1]
    by_cases h2 : ta - tb ≤ -7
    · rw [if_pos h2, if_pos h2]; rfl
    · rw [if_neg h2, if_neg h2]
set_option maxRecDepth 100000 in
set_option maxHeartbeats 2000000 in
theorem l02Error_m6 (da ta db tb : Int) (w : World) (ha : Dig da) (hb : Dig db) (hs : ta - tb = -6) :
    Calls Try.prog 150 #[.agg #[.int .i64 da, .int .i64 ta], .agg #[.int .i64 db, .int .i64 tb]] w fun e w' => e = .returned (.int .i64 (relX da ta db tb)) ∧ Below w.heap.size w w' := by
  have HX : relOut da db (-6) = ceilDiv (1000000 * max (da - db * 1000000) (-(da - db * 1000000))) (db * 1000000) := by unfold relOut; rw [show pS (-6) = 1 by decide, show pS (-(-6)) = 1000000 by decide]; simp only [Int.mul_one]
  have HV := Lib.hid (show relX da ta db tb = ceilDiv (1000000 * max (da - db * 1000000) (-(da - db * 1000000))) (db * 1000000) by rw [relX, if_neg (by omega), if_neg (by omega), hs, HX])
  clear HX
  have T1 := fun W => l01Ten_any 6 W (by omega) (by omega)
  rw [show p10 ((6 : Int)).toNat = 1000000 by decide] at T1
  unfold Dig at ha hb
  have m0 : -100000000000 ≤ da - db * 1000000 ∧ da - db * 1000000 ≤ 100000000000 := by omega
  have m1 : 0 ≤ max (da - db * 1000000) (-(da - db * 1000000)) ∧ max (da - db * 1000000) (-(da - db * 1000000)) ≤ 100000000000 := by omega
  have U := fun W => l01Ceil_any (1000000 * max (da - db * 1000000) (-(da - db * 1000000))) (db * 1000000) W (by omega) (by omega) (by omega) (by omega)
  have V := fun W => l01Abs_any (da - db * 1000000) W (by omega) (by omega)
  generalize hM : max (da - db * 1000000) (-(da - db * 1000000)) = mx at *
  have HM := Lib.hid hM
  clear hM
  go_enter Try.func150, Try.ntmps150
  go_wp2_with fail
  go_quiet (fail)
  go_wp2_with (first
    | (go_at_call 117; (with_reducible refine (T1 _).mono ?_); rintro e w' ⟨rfl, rfl⟩)
    | (go_at_call 136; (with_reducible refine (V _).mono ?_); rintro e w' ⟨rfl, rfl⟩)
    | (go_at_call 121; (with_reducible refine (U _).mono ?_); rintro e w' ⟨rfl, rfl⟩))
  go_ret
  exact ⟨endInt HV.out.symm, belowDraws (by repeat' (first | exact Below.refl _ _ | assumption | refine Below.alloc ?_ (by first | omega | (simp; done) | (simp; omega)) _ | refine Below.drew ?_ | refine Below.setCell ?_ (by first | omega | (simp; done) | (simp; omega)) _)) _⟩
set_option maxRecDepth 100000 in
set_option maxHeartbeats 2000000 in
theorem l02Error_m5 (da ta db tb : Int) (w : World) (ha : Dig da) (hb : Dig db) (hs : ta - tb = -5) :
    Calls Try.prog 150 #[.agg #[.int .i64 da, .int .i64 ta], .agg #[.int .i64 db, .int .i64 tb]] w fun e w' => e = .returned (.int .i64 (relX da ta db tb)) ∧ Below w.heap.size w w' := by
  have HX : relOut da db (-5) = ceilDiv (1000000 * max (da - db * 100000) (-(da - db * 100000))) (db * 100000) := by unfold relOut; rw [show pS (-5) = 1 by decide, show pS (-(-5)) = 100000 by decide]; simp only [Int.mul_one]
  have HV := Lib.hid (show relX da ta db tb = ceilDiv (1000000 * max (da - db * 100000) (-(da - db * 100000))) (db * 100000) by rw [relX, if_neg (by omega), if_neg (by omega), hs, HX])
  clear HX
  have T1 := fun W => l01Ten_any 5 W (by omega) (by omega)
  rw [show p10 ((5 : Int)).toNat = 100000 by decide] at T1
  unfold Dig at ha hb
  have m0 : -100000000000 ≤ da - db * 100000 ∧ da - db * 100000 ≤ 100000000000 := by omega
  have m1 : 0 ≤ max (da - db * 100000) (-(da - db * 100000)) ∧ max (da - db * 100000) (-(da - db * 100000)) ≤ 100000000000 := by omega
  have U := fun W => l01Ceil_any (1000000 * max (da - db * 100000) (-(da - db * 100000))) (db * 100000) W (by omega) (by omega) (by omega) (by omega)
  have V := fun W => l01Abs_any (da - db * 100000) W (by omega) (by omega)
  generalize hM : max (da - db * 100000) (-(da - db * 100000)) = mx at *
  have HM := Lib.hid hM
  clear hM
  go_enter Try.func150, Try.ntmps150
  go_wp2_with fail
  go_quiet (fail)
  go_wp2_with (first
    | (go_at_call 117; (with_reducible refine (T1 _).mono ?_); rintro e w' ⟨rfl, rfl⟩)
    | (go_at_call 136; (with_reducible refine (V _).mono ?_); rintro e w' ⟨rfl, rfl⟩)
    | (go_at_call 121; (with_reducible refine (U _).mono ?_); rintro e w' ⟨rfl, rfl⟩))
  go_ret
  exact ⟨endInt HV.out.symm, belowDraws (by repeat' (first | exact Below.refl _ _ | assumption | refine Below.alloc ?_ (by first | omega | (simp; done) | (simp; omega)) _ | refine Below.drew ?_ | refine Below.setCell ?_ (by first | omega | (simp; done) | (simp; omega)) _)) _⟩
set_option maxRecDepth 100000 in
set_option maxHeartbeats 2000000 in
theorem l02Error_m4 (da ta db tb : Int) (w : World) (ha : Dig da) (hb : Dig db) (hs : ta - tb = -4) :
    Calls Try.prog 150 #[.agg #[.int .i64 da, .int .i64 ta], .agg #[.int .i64 db, .int .i64 tb]] w fun e w' => e = .returned (.int .i64 (relX da ta db tb)) ∧ Below w.heap.size w w' := by
  have HX : relOut da db (-4) = ceilDiv (1000000 * max (da - db * 10000) (-(da - db * 10000))) (db * 10000) := by unfold relOut; rw [show pS (-4) = 1 by decide, show pS (-(-4)) = 10000 by decide]; simp only [Int.mul_one]
  have HV := Lib.hid (show relX da ta db tb = ceilDiv (1000000 * max (da - db * 10000) (-(da - db * 10000))) (db * 10000) by rw [relX, if_neg (by omega), if_neg (by omega), hs, HX])
  clear HX
  have T1 := fun W => l01Ten_any 4 W (by omega) (by omega)
  rw [show p10 ((4 : Int)).toNat = 10000 by decide] at T1
  unfold Dig at ha hb
  have m0 : -100000000000 ≤ da - db * 10000 ∧ da - db * 10000 ≤ 100000000000 := by omega
  have m1 : 0 ≤ max (da - db * 10000) (-(da - db * 10000)) ∧ max (da - db * 10000) (-(da - db * 10000)) ≤ 100000000000 := by omega
  have U := fun W => l01Ceil_any (1000000 * max (da - db * 10000) (-(da - db * 10000))) (db * 10000) W (by omega) (by omega) (by omega) (by omega)
  have V := fun W => l01Abs_any (da - db * 10000) W (by omega) (by omega)
  generalize hM : max (da - db * 10000) (-(da - db * 10000)) = mx at *
  have HM := Lib.hid hM
  clear hM
  go_enter Try.func150, Try.ntmps150
  go_wp2_with fail
  go_quiet (fail)
  go_wp2_with (first
    | (go_at_call 117; (with_reducible refine (T1 _).mono ?_); rintro e w' ⟨rfl, rfl⟩)
    | (go_at_call 136; (with_reducible refine (V _).mono ?_); rintro e w' ⟨rfl, rfl⟩)
    | (go_at_call 121; (with_reducible refine (U _).mono ?_); rintro e w' ⟨rfl, rfl⟩))
  go_ret
  exact ⟨endInt HV.out.symm, belowDraws (by repeat' (first | exact Below.refl _ _ | assumption | refine Below.alloc ?_ (by first | omega | (simp; done) | (simp; omega)) _ | refine Below.drew ?_ | refine Below.setCell ?_ (by first | omega | (simp; done) | (simp; omega)) _)) _⟩
set_option maxRecDepth 100000 in
set_option maxHeartbeats 2000000 in
theorem l02Error_m3 (da ta db tb : Int) (w : World) (ha : Dig da) (hb : Dig db) (hs : ta - tb = -3) :
    Calls Try.prog 150 #[.agg #[.int .i64 da, .int .i64 ta], .agg #[.int .i64 db, .int .i64 tb]] w fun e w' => e = .returned (.int .i64 (relX da ta db tb)) ∧ Below w.heap.size w w' := by
  have HX : relOut da db (-3) = ceilDiv (1000000 * max (da - db * 1000) (-(da - db * 1000))) (db * 1000) := by unfold relOut; rw [show pS (-3) = 1 by decide, show pS (-(-3)) = 1000 by decide]; simp only [Int.mul_one]
  have HV := Lib.hid (show relX da ta db tb = ceilDiv (1000000 * max (da - db * 1000) (-(da - db * 1000))) (db * 1000) by rw [relX, if_neg (by omega), if_neg (by omega), hs, HX])
  clear HX
  have T1 := fun W => l01Ten_any 3 W (by omega) (by omega)
  rw [show p10 ((3 : Int)).toNat = 1000 by decide] at T1
  unfold Dig at ha hb
  have m0 : -100000000000 ≤ da - db * 1000 ∧ da - db * 1000 ≤ 100000000000 := by omega
  have m1 : 0 ≤ max (da - db * 1000) (-(da - db * 1000)) ∧ max (da - db * 1000) (-(da - db * 1000)) ≤ 100000000000 := by omega
  have U := fun W => l01Ceil_any (1000000 * max (da - db * 1000) (-(da - db * 1000))) (db * 1000) W (by omega) (by omega) (by omega) (by omega)
  have V := fun W => l01Abs_any (da - db * 1000) W (by omega) (by omega)
  generalize hM : max (da - db * 1000) (-(da - db * 1000)) = mx at *
  have HM := Lib.hid hM
  clear hM
  go_enter Try.func150, Try.ntmps150
  go_wp2_with fail
  go_quiet (fail)
  go_wp2_with (first
    | (go_at_call 117; (with_reducible refine (T1 _).mono ?_); rintro e w' ⟨rfl, rfl⟩)
    | (go_at_call 136; (with_reducible refine (V _).mono ?_); rintro e w' ⟨rfl, rfl⟩)
    | (go_at_call 121; (with_reducible refine (U _).mono ?_); rintro e w' ⟨rfl, rfl⟩))
  go_ret
  exact ⟨endInt HV.out.symm, belowDraws (by repeat' (first | exact Below.refl _ _ | assumption | refine Below.alloc ?_ (by first | omega | (simp; done) | (simp; omega)) _ | refine Below.drew ?_ | refine Below.setCell ?_ (by first | omega | (simp; done) | (simp; omega)) _)) _⟩
set_option maxRecDepth 100000 in
set_option maxHeartbeats 2000000 in
theorem l02Error_m2 (da ta db tb : Int) (w : World) (ha : Dig da) (hb : Dig db) (hs : ta - tb = -2) :
    Calls Try.prog 150 #[.agg #[.int .i64 da, .int .i64 ta], .agg #[.int .i64 db, .int .i64 tb]] w fun e w' => e = .returned (.int .i64 (relX da ta db tb)) ∧ Below w.heap.size w w' := by
  have HX : relOut da db (-2) = ceilDiv (1000000 * max (da - db * 100) (-(da - db * 100))) (db * 100) := by unfold relOut; rw [show pS (-2) = 1 by decide, show pS (-(-2)) = 100 by decide]; simp only [Int.mul_one]
  have HV := Lib.hid (show relX da ta db tb = ceilDiv (1000000 * max (da - db * 100) (-(da - db * 100))) (db * 100) by rw [relX, if_neg (by omega), if_neg (by omega), hs, HX])
  clear HX
  have T1 := fun W => l01Ten_any 2 W (by omega) (by omega)
  rw [show p10 ((2 : Int)).toNat = 100 by decide] at T1
  unfold Dig at ha hb
  have m0 : -100000000000 ≤ da - db * 100 ∧ da - db * 100 ≤ 100000000000 := by omega
  have m1 : 0 ≤ max (da - db * 100) (-(da - db * 100)) ∧ max (da - db * 100) (-(da - db * 100)) ≤ 100000000000 := by omega
  have U := fun W => l01Ceil_any (1000000 * max (da - db * 100) (-(da - db * 100))) (db * 100) W (by omega) (by omega) (by omega) (by omega)
  have V := fun W => l01Abs_any (da - db * 100) W (by omega) (by omega)
  generalize hM : max (da - db * 100) (-(da - db * 100)) = mx at *
  have HM := Lib.hid hM
  clear hM
  go_enter Try.func150, Try.ntmps150
  go_wp2_with fail
  go_quiet (fail)
  go_wp2_with (first
    | (go_at_call 117; (with_reducible refine (T1 _).mono ?_); rintro e w' ⟨rfl, rfl⟩)
    | (go_at_call 136; (with_reducible refine (V _).mono ?_); rintro e w' ⟨rfl, rfl⟩)
    | (go_at_call 121; (with_reducible refine (U _).mono ?_); rintro e w' ⟨rfl, rfl⟩))
  go_ret
  exact ⟨endInt HV.out.symm, belowDraws (by repeat' (first | exact Below.refl _ _ | assumption | refine Below.alloc ?_ (by first | omega | (simp; done) | (simp; omega)) _ | refine Below.drew ?_ | refine Below.setCell ?_ (by first | omega | (simp; done) | (simp; omega)) _)) _⟩
set_option maxRecDepth 100000 in
set_option maxHeartbeats 2000000 in
theorem l02Error_m1 (da ta db tb : Int) (w : World) (ha : Dig da) (hb : Dig db) (hs : ta - tb = -1) :
    Calls Try.prog 150 #[.agg #[.int .i64 da, .int .i64 ta], .agg #[.int .i64 db, .int .i64 tb]] w fun e w' => e = .returned (.int .i64 (relX da ta db tb)) ∧ Below w.heap.size w w' := by
  have HX : relOut da db (-1) = ceilDiv (1000000 * max (da - db * 10) (-(da - db * 10))) (db * 10) := by unfold relOut; rw [show pS (-1) = 1 by decide, show pS (-(-1)) = 10 by decide]; simp only [Int.mul_one]
  have HV := Lib.hid (show relX da ta db tb = ceilDiv (1000000 * max (da - db * 10) (-(da - db * 10))) (db * 10) by rw [relX, if_neg (by omega), if_neg (by omega), hs, HX])
  clear HX
  have T1 := fun W => l01Ten_any 1 W (by omega) (by omega)
  rw [show p10 ((1 : Int)).toNat = 10 by decide] at T1
  unfold Dig at ha hb
  have m0 : -100000000000 ≤ da - db * 10 ∧ da - db * 10 ≤ 100000000000 := by omega
  have m1 : 0 ≤ max (da - db * 10) (-(da - db * 10)) ∧ max (da - db * 10) (-(da - db * 10)) ≤ 100000000000 := by omega
  have U := fun W => l01Ceil_any (1000000 * max (da - db * 10) (-(da - db * 10))) (db * 10) W (by omega) (by omega) (by omega) (by omega)
  have V := fun W => l01Abs_any (da - db * 10) W (by omega) (by omega)
  generalize hM : max (da - db * 10) (-(da - db * 10)) = mx at *
  have HM := Lib.hid hM
  clear hM
  go_enter Try.func150, Try.ntmps150
  go_wp2_with fail
  go_quiet (fail)
  go_wp2_with (first
    | (go_at_call 117; (with_reducible refine (T1 _).mono ?_); rintro e w' ⟨rfl, rfl⟩)
    | (go_at_call 136; (with_reducible refine (V _).mono ?_); rintro e w' ⟨rfl, rfl⟩)
    | (go_at_call 121; (with_reducible refine (U _).mono ?_); rintro e w' ⟨rfl, rfl⟩))
  go_ret
  exact ⟨endInt HV.out.symm, belowDraws (by repeat' (first | exact Below.refl _ _ | assumption | refine Below.alloc ?_ (by first | omega | (simp; done) | (simp; omega)) _ | refine Below.drew ?_ | refine Below.setCell ?_ (by first | omega | (simp; done) | (simp; omega)) _)) _⟩
set_option maxRecDepth 100000 in
set_option maxHeartbeats 2000000 in
theorem l02Error_0 (da ta db tb : Int) (w : World) (ha : Dig da) (hb : Dig db) (hs : ta - tb = 0) :
    Calls Try.prog 150 #[.agg #[.int .i64 da, .int .i64 ta], .agg #[.int .i64 db, .int .i64 tb]] w fun e w' => e = .returned (.int .i64 (relX da ta db tb)) ∧ Below w.heap.size w w' := by
  have HX : relOut da db (0) = ceilDiv (1000000 * max (da - db) (-(da - db))) (db) := by unfold relOut; rw [show pS (0) = 1 by decide, show pS (-(0)) = 1 by decide]; simp only [Int.mul_one]
  have HV := Lib.hid (show relX da ta db tb = ceilDiv (1000000 * max (da - db) (-(da - db))) (db) by rw [relX, if_neg (by omega), if_neg (by omega), hs, HX])
  clear HX
  have T1 := fun W => l01Ten_any 0 W (by omega) (by omega)
  rw [show p10 ((0 : Int)).toNat = 1 by decide] at T1
  unfold Dig at ha hb
  have m0 : -100000000000 ≤ da - db ∧ da - db ≤ 100000000000 := by omega
  have m1 : 0 ≤ max (da - db) (-(da - db)) ∧ max (da - db) (-(da - db)) ≤ 100000000000 := by omega
  have U := fun W => l01Ceil_any (1000000 * max (da - db) (-(da - db))) (db) W (by omega) (by omega) (by omega) (by omega)
  have V := fun W => l01Abs_any (da - db) W (by omega) (by omega)
  generalize hM : max (da - db) (-(da - db)) = mx at *
  have HM := Lib.hid hM
  clear hM
  go_enter Try.func150, Try.ntmps150
  go_wp2_with fail
  go_quiet (fail)
  go_wp2_with (first
    | (go_at_call 117; (with_reducible refine (T1 _).mono ?_); rintro e w' ⟨rfl, rfl⟩)
    | (go_at_call 136; (with_reducible refine (V _).mono ?_); rintro e w' ⟨rfl, rfl⟩)
    | (go_at_call 121; (with_reducible refine (U _).mono ?_); rintro e w' ⟨rfl, rfl⟩))
  go_ret
  exact ⟨endInt HV.out.symm, belowDraws (by repeat' (first | exact Below.refl _ _ | assumption | refine Below.alloc ?_ (by first | omega | (simp; done) | (simp; omega)) _ | refine Below.drew ?_ | refine Below.setCell ?_ (by first | omega | (simp; done) | (simp; omega)) _)) _⟩
set_option maxRecDepth 100000 in
set_option maxHeartbeats 2000000 in
theorem l02Error_1 (da ta db tb : Int) (w : World) (ha : Dig da) (hb : Dig db) (hs : ta - tb = 1) :
    Calls Try.prog 150 #[.agg #[.int .i64 da, .int .i64 ta], .agg #[.int .i64 db, .int .i64 tb]] w fun e w' => e = .returned (.int .i64 (relX da ta db tb)) ∧ Below w.heap.size w w' := by
  have HX : relOut da db (1) = ceilDiv (1000000 * max (da * 10 - db) (-(da * 10 - db))) (db) := by unfold relOut; rw [show pS (1) = 10 by decide, show pS (-(1)) = 1 by decide]; simp only [Int.mul_one]
  have HV := Lib.hid (show relX da ta db tb = ceilDiv (1000000 * max (da * 10 - db) (-(da * 10 - db))) (db) by rw [relX, if_neg (by omega), if_neg (by omega), hs, HX])
  clear HX
  have T1 := fun W => l01Ten_any 1 W (by omega) (by omega)
  rw [show p10 ((1 : Int)).toNat = 10 by decide] at T1
  unfold Dig at ha hb
  have m0 : -100000000000 ≤ da * 10 - db ∧ da * 10 - db ≤ 100000000000 := by omega
  have m1 : 0 ≤ max (da * 10 - db) (-(da * 10 - db)) ∧ max (da * 10 - db) (-(da * 10 - db)) ≤ 100000000000 := by omega
  have U := fun W => l01Ceil_any (1000000 * max (da * 10 - db) (-(da * 10 - db))) (db) W (by omega) (by omega) (by omega) (by omega)
  have V := fun W => l01Abs_any (da * 10 - db) W (by omega) (by omega)
  generalize hM : max (da * 10 - db) (-(da * 10 - db)) = mx at *
  have HM := Lib.hid hM
  clear hM
  go_enter Try.func150, Try.ntmps150
  go_wp2_with fail
  go_quiet (fail)
  go_wp2_with (first
    | (go_at_call 117; (with_reducible refine (T1 _).mono ?_); rintro e w' ⟨rfl, rfl⟩)
    | (go_at_call 136; (with_reducible refine (V _).mono ?_); rintro e w' ⟨rfl, rfl⟩)
    | (go_at_call 121; (with_reducible refine (U _).mono ?_); rintro e w' ⟨rfl, rfl⟩))
  go_ret
  exact ⟨endInt HV.out.symm, belowDraws (by repeat' (first | exact Below.refl _ _ | assumption | refine Below.alloc ?_ (by first | omega | (simp; done) | (simp; omega)) _ | refine Below.drew ?_ | refine Below.setCell ?_ (by first | omega | (simp; done) | (simp; omega)) _)) _⟩
set_option maxHeartbeats 2000000 in
theorem l02Error_any (da ta db tb : Int) (w : World) (ha : Dig da) (hb : Dig db) (ta1 : -1000 ≤ ta) (ta2 : ta ≤ 1000) (tb1 : -1000 ≤ tb) (tb2 : tb ≤ 1000) :
    Calls Try.prog 150 #[.agg #[.int .i64 da, .int .i64 ta], .agg #[.int .i64 db, .int .i64 tb]] w fun e w' => e = .returned (.int .i64 (relX da ta db tb)) ∧ Below w.heap.size w w' := by
  by_cases h2 : 2 ≤ ta - tb
  · have HV := Lib.hid (show relX da ta db tb = 9000001 by rw [relX, if_pos h2])
    go_enter Try.func150, Try.ntmps150
    go_wp2_with fail
    go_ret
    exact ⟨endInt HV.out.symm, by repeat' (first | exact Below.refl _ _ | assumption | refine Below.alloc ?_ (by first | omega | (simp; done) | (simp; omega)) _ | refine Below.drew ?_ | refine Below.setCell ?_ (by first | omega | (simp; done) | (simp; omega)) _)⟩
  · by_cases h8 : ta - tb ≤ -7
    · have HV := Lib.hid (show relX da ta db tb = 1000000 by rw [relX, if_neg h2, if_pos h8])
      go_enter Try.func150, Try.ntmps150
      go_wp2_with fail
      go_ret
      exact ⟨endInt HV.out.symm, by repeat' (first | exact Below.refl _ _ | assumption | refine Below.alloc ?_ (by first | omega | (simp; done) | (simp; omega)) _ | refine Below.drew ?_ | refine Below.setCell ?_ (by first | omega | (simp; done) | (simp; omega)) _)⟩
    · rcases (show ta - tb = -6 ∨ ta - tb = -5 ∨ ta - tb = -4 ∨ ta - tb = -3 ∨ ta - tb = -2 ∨ ta - tb = -1 ∨ ta - tb = 0 ∨ ta - tb = 1 by omega) with hs | hs | hs | hs | hs | hs | hs | hs
      · exact l02Error_m6 da ta db tb w ha hb hs
      · exact l02Error_m5 da ta db tb w ha hb hs
      · exact l02Error_m4 da ta db tb w ha hb hs
      · exact l02Error_m3 da ta db tb w ha hb hs
      · exact l02Error_m2 da ta db tb w ha hb hs
      · exact l02Error_m1 da ta db tb w ha hb hs
      · exact l02Error_0 da ta db tb w ha hb hs
      · exact l02Error_1 da ta db tb w ha hb hs
set_option maxHeartbeats 400000 in
theorem l02Two_ok (da ta db tb : Int) (w : World) (ha : figB da ta = true) (hb : figB db tb = true) :
    Calls Try.prog 149 #[.agg #[.int .i64 da, .int .i64 ta], .agg #[.int .i64 db, .int .i64 tb]] w fun e w' => e = .returned (.bool true) ∧ Below w.heap.size w w' := by
  have A := fun W => sIsFigure_any da ta W
  have B := fun W => sIsFigure_any db tb W
  rw [ha] at A
  rw [hb] at B
  clear ha hb
  go_enter Try.func149, Try.ntmps149
  go_wp2_with (first
    | (go_at_call 99; (with_reducible refine (A _).mono ?_); rintro e w' ⟨rfl, rfl⟩)
    | (go_at_call 99; (with_reducible refine (B _).mono ?_); rintro e w' ⟨rfl, rfl⟩))
  go_ret
  exact ⟨rfl, by repeat' (first | exact Below.refl _ _ | assumption | refine Below.alloc ?_ (by first | omega | (simp; done) | (simp; omega)) _ | refine Below.drew ?_ | refine Below.setCell ?_ (by first | omega | (simp; done) | (simp; omega)) _)⟩
set_option maxHeartbeats 2000000 in
theorem sRelativeError_ok (da ta db tb : Int) (w : World) (ha : figB da ta = true) (hb : figB db tb = true) :
    Calls Try.prog 102 #[.agg #[.int .i64 da, .int .i64 ta], .agg #[.int .i64 db, .int .i64 tb]] w fun e w' => e = .returned (.tuple #[.int .i64 (rRel da ta db tb).1, .int .i64 (rRel da ta db tb).2]) ∧ Below w.heap.size w w' := by
  obtain ⟨d1, t1, t2⟩ := figB_iff.1 ha
  obtain ⟨d2, t3, t4⟩ := figB_iff.1 hb
  have T := fun W => l02Two_ok da ta db tb W ha hb
  have X := fun W => l02Error_any da ta db tb W d1 d2 (by omega) (by omega) (by omega) (by omega)
  have HR := Lib.hid (rRel_X (da := da) (ta := ta) (db := db) (tb := tb))
  generalize relX da ta db tb = x at *
  clear ha hb
  by_cases hx : 9000000 < x
  · have HV := Lib.hid (HR.out.trans (if_pos hx))
    go_enter Try.func102, Try.ntmps102
    go_wp2_with (first
      | (go_at_call 149; refine (T _).mono ?_; rintro e w1 ⟨rfl, hb1⟩; have hB1 : Below w.heap.size w w1 := Below.trans (by repeat' (first | exact Below.refl _ _ | assumption | refine Below.alloc ?_ (by first | omega | (simp; done) | (simp; omega)) _ | refine Below.drew ?_ | refine Below.setCell ?_ (by first | omega | (simp; done) | (simp; omega)) _)) (hb1.mono (by first | omega | (simp; done) | (simp; omega))); have hz1 := hB1.size; have hl1_0 : w.heap.size < w1.heap.size := Nat.lt_of_lt_of_le (by first | omega | (simp; done) | (simp; omega)) hb1.size; have q1_00 : w1.cell? ⟨w.heap.size, 0, none⟩ = some (.int .i64 da) := (by rw [hb1.cell (by first | omega | (simp; done) | (simp; omega))]; simp [go_sem, *]); have r1_00 : w1.frozen? ⟨w.heap.size, 0, none⟩ = false := (by rw [hb1.frozen (by first | omega | (simp; done) | (simp; omega))]; simp [go_sem, *]); have q1_01 : w1.cell? ⟨w.heap.size, 1, none⟩ = some (.int .i64 ta) := (by rw [hb1.cell (by first | omega | (simp; done) | (simp; omega))]; simp [go_sem, *]); have r1_01 : w1.frozen? ⟨w.heap.size, 1, none⟩ = false := (by rw [hb1.frozen (by first | omega | (simp; done) | (simp; omega))]; simp [go_sem, *]); have hl1_1 : (w.heap.size + 1) < w1.heap.size := Nat.lt_of_lt_of_le (by first | omega | (simp; done) | (simp; omega)) hb1.size; have q1_10 : w1.cell? ⟨(w.heap.size + 1), 0, none⟩ = some (.int .i64 db) := (by rw [hb1.cell (by first | omega | (simp; done) | (simp; omega))]; simp [go_sem, *]); have r1_10 : w1.frozen? ⟨(w.heap.size + 1), 0, none⟩ = false := (by rw [hb1.frozen (by first | omega | (simp; done) | (simp; omega))]; simp [go_sem, *]); have q1_11 : w1.cell? ⟨(w.heap.size + 1), 1, none⟩ = some (.int .i64 tb) := (by rw [hb1.cell (by first | omega | (simp; done) | (simp; omega))]; simp [go_sem, *]); have r1_11 : w1.frozen? ⟨(w.heap.size + 1), 1, none⟩ = false := (by rw [hb1.frozen (by first | omega | (simp; done) | (simp; omega))]; simp [go_sem, *]); clear hb1)
      | (go_at_call 150; refine (X _).mono ?_; rintro e w2 ⟨rfl, hb2⟩; have hB2 : Below w.heap.size w w2 := Below.trans (by repeat' (first | exact Below.refl _ _ | assumption | refine Below.alloc ?_ (by first | omega | (simp; done) | (simp; omega)) _ | refine Below.drew ?_ | refine Below.setCell ?_ (by first | omega | (simp; done) | (simp; omega)) _)) (hb2.mono (by first | omega | (simp; done) | (simp; omega))); have hz2 := hB2.size; have hl2_0 : w.heap.size < w2.heap.size := Nat.lt_of_lt_of_le (by first | omega | (simp; done) | (simp; omega)) hb2.size; have q2_00 : w2.cell? ⟨w.heap.size, 0, none⟩ = some (.int .i64 da) := (by rw [hb2.cell (by first | omega | (simp; done) | (simp; omega))]; simp [go_sem, *]); have r2_00 : w2.frozen? ⟨w.heap.size, 0, none⟩ = false := (by rw [hb2.frozen (by first | omega | (simp; done) | (simp; omega))]; simp [go_sem, *]); have q2_01 : w2.cell? ⟨w.heap.size, 1, none⟩ = some (.int .i64 ta) := (by rw [hb2.cell (by first | omega | (simp; done) | (simp; omega))]; simp [go_sem, *]); have r2_01 : w2.frozen? ⟨w.heap.size, 1, none⟩ = false := (by rw [hb2.frozen (by first | omega | (simp; done) | (simp; omega))]; simp [go_sem, *]); have hl2_1 : (w.heap.size + 1) < w2.heap.size := Nat.lt_of_lt_of_le (by first | omega | (simp; done) | (simp; omega)) hb2.size; have q2_10 : w2.cell? ⟨(w.heap.size + 1), 0, none⟩ = some (.int .i64 db) := (by rw [hb2.cell (by first | omega | (simp; done) | (simp; omega))]; simp [go_sem, *]); have r2_10 : w2.frozen? ⟨(w.heap.size + 1), 0, none⟩ = false := (by rw [hb2.frozen (by first | omega | (simp; done) | (simp; omega))]; simp [go_sem, *]); have q2_11 : w2.cell? ⟨(w.heap.size + 1), 1, none⟩ = some (.int .i64 tb) := (by rw [hb2.cell (by first | omega | (simp; done) | (simp; omega))]; simp [go_sem, *]); have r2_11 : w2.frozen? ⟨(w.heap.size + 1), 1, none⟩ = false := (by rw [hb2.frozen (by first | omega | (simp; done) | (simp; omega))]; simp [go_sem, *]); clear hb2))
    go_ret2
    exact ⟨endTwo HV.out, by repeat' (first | exact Below.refl _ _ | assumption | refine Below.alloc ?_ (by first | omega | (simp; done) | (simp; omega)) _ | refine Below.drew ?_ | refine Below.setCell ?_ (by first | omega | (simp; done) | (simp; omega)) _)⟩
  · have HV := Lib.hid (HR.out.trans (if_neg hx))
    go_enter Try.func102, Try.ntmps102
    go_wp2_with (first
      | (go_at_call 149; refine (T _).mono ?_; rintro e w1 ⟨rfl, hb1⟩; have hB1 : Below w.heap.size w w1 := Below.trans (by repeat' (first | exact Below.refl _ _ | assumption | refine Below.alloc ?_ (by first | omega | (simp; done) | (simp; omega)) _ | refine Below.drew ?_ | refine Below.setCell ?_ (by first | omega | (simp; done) | (simp; omega)) _)) (hb1.mono (by first | omega | (simp; done) | (simp; omega))); have hz1 := hB1.size; have hl1_0 : w.heap.size < w1.heap.size := Nat.lt_of_lt_of_le (by first | omega | (simp; done) | (simp; omega)) hb1.size; have q1_00 : w1.cell? ⟨w.heap.size, 0, none⟩ = some (.int .i64 da) := (by rw [hb1.cell (by first | omega | (simp; done) | (simp; omega))]; simp [go_sem, *]); have r1_00 : w1.frozen? ⟨w.heap.size, 0, none⟩ = false := (by rw [hb1.frozen (by first | omega | (simp; done) | (simp; omega))]; simp [go_sem, *]); have q1_01 : w1.cell? ⟨w.heap.size, 1, none⟩ = some (.int .i64 ta) := (by rw [hb1.cell (by first | omega | (simp; done) | (simp; omega))]; simp [go_sem, *]); have r1_01 : w1.frozen? ⟨w.heap.size, 1, none⟩ = false := (by rw [hb1.frozen (by first | omega | (simp; done) | (simp; omega))]; simp [go_sem, *]); have hl1_1 : (w.heap.size + 1) < w1.heap.size := Nat.lt_of_lt_of_le (by first | omega | (simp; done) | (simp; omega)) hb1.size; have q1_10 : w1.cell? ⟨(w.heap.size + 1), 0, none⟩ = some (.int .i64 db) := (by rw [hb1.cell (by first | omega | (simp; done) | (simp; omega))]; simp [go_sem, *]); have r1_10 : w1.frozen? ⟨(w.heap.size + 1), 0, none⟩ = false := (by rw [hb1.frozen (by first | omega | (simp; done) | (simp; omega))]; simp [go_sem, *]); have q1_11 : w1.cell? ⟨(w.heap.size + 1), 1, none⟩ = some (.int .i64 tb) := (by rw [hb1.cell (by first | omega | (simp; done) | (simp; omega))]; simp [go_sem, *]); have r1_11 : w1.frozen? ⟨(w.heap.size + 1), 1, none⟩ = false := (by rw [hb1.frozen (by first | omega | (simp; done) | (simp; omega))]; simp [go_sem, *]); clear hb1)
      | (go_at_call 150; refine (X _).mono ?_; rintro e w2 ⟨rfl, hb2⟩; have hB2 : Below w.heap.size w w2 := Below.trans (by repeat' (first | exact Below.refl _ _ | assumption | refine Below.alloc ?_ (by first | omega | (simp; done) | (simp; omega)) _ | refine Below.drew ?_ | refine Below.setCell ?_ (by first | omega | (simp; done) | (simp; omega)) _)) (hb2.mono (by first | omega | (simp; done) | (simp; omega))); have hz2 := hB2.size; have hl2_0 : w.heap.size < w2.heap.size := Nat.lt_of_lt_of_le (by first | omega | (simp; done) | (simp; omega)) hb2.size; have q2_00 : w2.cell? ⟨w.heap.size, 0, none⟩ = some (.int .i64 da) := (by rw [hb2.cell (by first | omega | (simp; done) | (simp; omega))]; simp [go_sem, *]); have r2_00 : w2.frozen? ⟨w.heap.size, 0, none⟩ = false := (by rw [hb2.frozen (by first | omega | (simp; done) | (simp; omega))]; simp [go_sem, *]); have q2_01 : w2.cell? ⟨w.heap.size, 1, none⟩ = some (.int .i64 ta) := (by rw [hb2.cell (by first | omega | (simp; done) | (simp; omega))]; simp [go_sem, *]); have r2_01 : w2.frozen? ⟨w.heap.size, 1, none⟩ = false := (by rw [hb2.frozen (by first | omega | (simp; done) | (simp; omega))]; simp [go_sem, *]); have hl2_1 : (w.heap.size + 1) < w2.heap.size := Nat.lt_of_lt_of_le (by first | omega | (simp; done) | (simp; omega)) hb2.size; have q2_10 : w2.cell? ⟨(w.heap.size + 1), 0, none⟩ = some (.int .i64 db) := (by rw [hb2.cell (by first | omega | (simp; done) | (simp; omega))]; simp [go_sem, *]); have r2_10 : w2.frozen? ⟨(w.heap.size + 1), 0, none⟩ = false := (by rw [hb2.frozen (by first | omega | (simp; done) | (simp; omega))]; simp [go_sem, *]); have q2_11 : w2.cell? ⟨(w.heap.size + 1), 1, none⟩ = some (.int .i64 tb) := (by rw [hb2.cell (by first | omega | (simp; done) | (simp; omega))]; simp [go_sem, *]); have r2_11 : w2.frozen? ⟨(w.heap.size + 1), 1, none⟩ = false := (by rw [hb2.frozen (by first | omega | (simp; done) | (simp; omega))]; simp [go_sem, *]); clear hb2))
    go_ret2
    exact ⟨endTwo HV.out, by repeat' (first | exact Below.refl _ _ | assumption | refine Below.alloc ?_ (by first | omega | (simp; done) | (simp; omega)) _ | refine Below.drew ?_ | refine Below.setCell ?_ (by first | omega | (simp; done) | (simp; omega)) _)⟩
def rReadE (s len pt eye : Int) : Int × Int := if ptB s len pt eye = true then (match (reads s len pt eye).getLast?, (reads s len pt eye).head? with | some m, some k => rRel (figAt m).1 (figAt m).2 (figAt k).1 (figAt k).2 | _, _ => (0, 4)) else (0, 2)
theorem figB_at {n : Nat} (h : n ≤ 2700) : figB (figAt n).1 (figAt n).2 = true := by
  obtain ⟨a, b⟩ := figAt_bd n
  have := figAt_tens h
  exact figB_iff.2 ⟨a, by omega, by omega⟩
theorem endPr {p q : Int × Int} (h : p = q) : Ending.returned (.tuple #[.int .i64 q.1, .int .i64 q.2]) = .returned (.tuple #[.int .i64 p.1, .int .i64 p.2]) := by subst h; rfl
theorem endSub {p : Int × Int} {x y : Int} (h : p = (x, y)) : Ending.returned (.tuple #[.int .i64 x, .int .i64 y]) = .returned (.tuple #[.int .i64 p.1, .int .i64 p.2]) := endTwo h
set_option maxRecDepth 100000 in
set_option maxHeartbeats 4000000 in
theorem iReadError_any (s len pt eye : Int) (w : World) :
    Calls Try.prog 39 #[.int .i64 s, .int .i64 len, .int .i64 pt, .int .i64 eye] w fun e w' => e = .returned (.tuple #[.int .i64 (rReadE s len pt eye).1, .int .i64 (rReadE s len pt eye).2]) ∧ Below w.heap.size w w' := by
  by_cases h : ptB s len pt eye = true
  · match hr : reads s len pt eye with
    | [] =>
      have HV := Lib.hid (show rReadE s len pt eye = (0, 4) by simp [rReadE, h, hr])
      have R := fun W => readings_none s len pt eye W h hr
      clear hr
      go_enter Try.func39, Try.ntmps39
      go_wp2_with (go_at_call 82; refine (R _).mono ?_; rintro e w1 ⟨rfl, hb1⟩; have hB1 : Below w.heap.size w w1 := Below.trans (by repeat' (first | exact Below.refl _ _ | assumption | refine Below.alloc ?_ (by first | omega | (simp; done) | (simp; omega)) _ | refine Below.drew ?_ | refine Below.setCell ?_ (by first | omega | (simp; done) | (simp; omega)) _)) (hb1.mono (by first | omega | (simp; done) | (simp; omega))); have hz1 := hB1.size; clear hb1)
      go_ret2
      exact ⟨endTwo HV.out, by repeat' (first | exact Below.refl _ _ | assumption | refine Below.alloc ?_ (by first | omega | (simp; done) | (simp; omega)) _ | refine Below.drew ?_ | refine Below.setCell ?_ (by first | omega | (simp; done) | (simp; omega)) _)⟩
    | n0 :: r0 =>
      obtain ⟨m, hm⟩ : ∃ m, (n0 :: r0).getLast? = some m := ⟨(n0 :: r0)[r0.length]'(by simp), by rw [List.getLast?_eq_getElem?]; simp⟩
      have hmm : m ≤ 2700 := by
        have hmem : m ∈ reads s len pt eye := by rw [hr]; exact List.mem_of_getLast? hm
        have := readsN_lt hmem
        have := nFigs_bd s
        omega
      have hnn : n0 ≤ 2700 := by
        have hmem : n0 ∈ reads s len pt eye := by rw [hr]; exact List.mem_cons_self ..
        have := readsN_lt hmem
        have := nFigs_bd s
        omega
      have HV := Lib.hid (show rReadE s len pt eye = rRel (figAt m).1 (figAt m).2 (figAt n0).1 (figAt n0).2 by simp [rReadE, h, hr, hm])
      have R := fun W => readings_some s len pt eye W h (by rw [hr]; simp)
      have HM := Lib.hid (show ((n0 :: r0).map figAt)[(n0 :: r0).length - 1]? = some (figAt m) by rw [List.getLast?_eq_getElem?] at hm; rw [List.getElem?_map, hm]; rfl)
      have HM0 := Lib.hid (show ((n0 :: r0).map figAt)[0]? = some (figAt n0) from rfl)
      have HL := Lib.hid (show ((n0 :: r0).map figAt).length = r0.length + 1 by simp)
      have HB := Lib.hid (show (reads s len pt eye).length ≤ 2700 from Nat.le_trans (readsN_length s len pt eye _) (nFigs_bd s).2)
      have hl2 : r0.length ≤ 2700 := by have := HB.out; rw [hr] at this; simp at this; omega
      obtain ⟨d1, t1⟩ := figAt_bd m
      obtain ⟨d2, t2⟩ := figAt_bd n0
      have t3 := figAt_tens hmm
      have t4 := figAt_tens hnn
      have X := fun W => relativeError_any (figAt m).1 (figAt m).2 (figAt n0).1 (figAt n0).2 W d1 d2 (by omega) (by omega) (by omega) (by omega)
      rw [hr] at R
      clear hr hm
      generalize (n0 :: r0).map figAt = L at *
      go_enter Try.func39, Try.ntmps39
      go_wp2_with fail
      refine (R _).mono ?_
      rintro e w1 ⟨v, rfl, hown, hb1⟩
      obtain ⟨A, c, rfl⟩ := ownShape hown
      have hz1 := hb1.size
      obtain ⟨b, off, p, rfl, hb, hp, c0, c1⟩ := (Sees.ofOwn hown).two (k := r0.length) (by rw [HL.out]; omega)
      have ep : p = figAt m := by have := HM.out; simp only [List.length_cons, Nat.add_sub_cancel] at this; rw [this] at hp; injection hp with hp; exact hp.symm
      subst ep
      obtain ⟨b', off', p', hA, hb', hp', c2, c3⟩ := (Sees.ofOwn hown).two (k := 0) (by rw [HL.out]; omega)
      injection hA with hA
      injection hA with hA1 hA2
      subst hA1 hA2
      have ep : p' = figAt n0 := by have := HM0.out; rw [this] at hp'; injection hp' with hp'; exact hp'.symm
      subst ep
      rw [HL.out]
      simp only [Nat.zero_mul, Nat.add_zero] at c2 c3
      have i0 : (0 : Int) ≤ (r0.length : Int) := by omega
      have i1 : (0 : Int) < (r0.length : Int) + 1 := by omega
      have i2 : (r0.length : Int) < (r0.length : Int) + 1 := by omega
      have i3 : (r0.length : Int) + 1 - 1 = r0.length := by omega
      have i4 : IntKind.i64.wrap (r0.length : Int) = r0.length := IntWalk.i64_in _ (by omega)
      have i5 : IntKind.i64.wrap ((r0.length : Int) + 1 - 1) = r0.length := IntWalk.i64_in _ (by omega) |>.trans (by omega)
      clear hown hp hp' R d1 d2
      generalize (figAt m).1 = da at *
      generalize (figAt m).2 = ta at *
      generalize (figAt n0).1 = db at *
      generalize (figAt n0).2 = tb at *
      generalize hr : rRel da ta db tb = rr at *
      have HR := Lib.hid hr
      clear hr
      go_wp2_with fail
      go_region_held3 (fun w' => w'.cell? ⟨b, off + r0.length * 2, none⟩ = some (.int .i64 da) ∧ w'.cell? ⟨b, off + r0.length * 2 + 1, none⟩ = some (.int .i64 ta) ∧ w'.cell? ⟨b, off, none⟩ = some (.int .i64 db) ∧ w'.cell? ⟨b, off + 1, none⟩ = some (.int .i64 tb)) (go_keep) (first
        | (go_at_call 101; (with_reducible refine (X _).mono ?_); rintro e w2 ⟨rfl, hb2⟩; have hB2 : Below w1.heap.size w1 w2 := Below.trans (by repeat' (first | exact Below.refl _ _ | assumption | refine Below.alloc ?_ (by first | omega | (simp; done) | (simp; omega)) _ | refine Below.drew ?_ | refine Below.setCell ?_ (by first | omega | (simp; done) | (simp; omega)) _)) (hb2.mono (by first | omega | (simp; done) | (simp; omega))); have q0 := (hB2.cell (p := ⟨b, off + r0.length * 2, none⟩) hb).trans c0; have q1 := (hB2.cell (p := ⟨b, off + r0.length * 2 + 1, none⟩) hb).trans c1; have q2 := (hB2.cell (p := ⟨b, off, none⟩) hb).trans c2; have q3 := (hB2.cell (p := ⟨b, off + 1, none⟩) hb).trans c3; clear hb2))
      all_goals go_wp2_with fail
      all_goals go_ret2
      all_goals exact ⟨endPr HV.out, hb1.trans (hB2.mono hz1)⟩
  · have h' : ptB s len pt eye = false := by simpa using h
    have HV := Lib.hid (show rReadE s len pt eye = (0, 2) by simp [rReadE, h'])
    have R := fun W => readings_no s len pt eye W h'
    go_enter Try.func39, Try.ntmps39
    go_wp2_with (go_at_call 82; refine (R _).mono ?_; rintro e w' ⟨rfl, rfl⟩)
    go_ret2
    exact ⟨endTwo HV.out, by repeat' (first | exact Below.refl _ _ | assumption | refine Below.alloc ?_ (by first | omega | (simp; done) | (simp; omega)) _ | refine Below.drew ?_ | refine Below.setCell ?_ (by first | omega | (simp; done) | (simp; omega)) _)⟩
set_option maxRecDepth 100000 in
set_option maxHeartbeats 4000000 in
theorem sReadError_any (s len pt eye : Int) (w : World) :
    Calls Try.prog 40 #[.int .i64 s, .int .i64 len, .int .i64 pt, .int .i64 eye] w fun e w' => e = .returned (.tuple #[.int .i64 (rReadE s len pt eye).1, .int .i64 (rReadE s len pt eye).2]) ∧ Below w.heap.size w w' := by
  have C := fun W => l06Code_any s len pt eye W
  by_cases h : ptB s len pt eye = true
  · obtain ⟨⟨s1, s2⟩, ⟨h1, h2⟩, _, h5, h6⟩ := ptB_iff.1 h
    have B := fun W => l06Bounds_any s len pt eye W s1 s2 h1 h2 h5 h6
    rw [if_pos h] at C
    match hr : reads s len pt eye with
    | [] =>
      have HV := Lib.hid (show rReadE s len pt eye = (0, 4) by simp [rReadE, h, hr])
      rw [hr] at B
      rw [show hd1 [] = -1 from rfl, show lst1 [] = -1 from rfl] at B
      clear hr
      go_enter Try.func40, Try.ntmps40
      go_wp2_with (first
        | (go_at_call 83; refine (C _).mono ?_; rintro e w' ⟨rfl, rfl⟩)
        | (go_at_call 84; refine (B _).mono ?_; rintro e w1 ⟨rfl, hb1⟩; have hB1 : Below w.heap.size w w1 := Below.trans (by repeat' (first | exact Below.refl _ _ | assumption | refine Below.alloc ?_ (by first | omega | (simp; done) | (simp; omega)) _ | refine Below.drew ?_ | refine Below.setCell ?_ (by first | omega | (simp; done) | (simp; omega)) _)) (hb1.mono (by first | omega | (simp; done) | (simp; omega))); have hz1 := hB1.size; clear hb1))
      go_ret2
      exact ⟨endTwo HV.out, by repeat' (first | exact Below.refl _ _ | assumption | refine Below.alloc ?_ (by first | omega | (simp; done) | (simp; omega)) _ | refine Below.drew ?_ | refine Below.setCell ?_ (by first | omega | (simp; done) | (simp; omega)) _)⟩
    | n0 :: r0 =>
      obtain ⟨m, hm⟩ : ∃ m, (n0 :: r0).getLast? = some m := ⟨(n0 :: r0)[r0.length]'(by simp), by rw [List.getLast?_eq_getElem?]; simp⟩
      have hmm : m ≤ 2700 := by
        have hmem : m ∈ reads s len pt eye := by rw [hr]; exact List.mem_of_getLast? hm
        have := readsN_lt hmem
        have := nFigs_bd s
        omega
      have hnn : n0 ≤ 2700 := by
        have hmem : n0 ∈ reads s len pt eye := by rw [hr]; exact List.mem_cons_self ..
        have := readsN_lt hmem
        have := nFigs_bd s
        omega
      have HV := Lib.hid (show rReadE s len pt eye = rRel (figAt m).1 (figAt m).2 (figAt n0).1 (figAt n0).2 by simp [rReadE, h, hr, hm])
      have X := fun W => sRelativeError_ok (figAt m).1 (figAt m).2 (figAt n0).1 (figAt n0).2 W (figB_at hmm) (figB_at hnn)
      rw [hr, show lst1 (n0 :: r0) = (m : Int) by rw [lst1, hm], show hd1 (n0 :: r0) = (n0 : Int) from rfl] at B
      have A1 := fun W => l06At_any m W (by omega)
      have A2 := fun W => l06At_any n0 W (by omega)
      generalize ((n0 :: r0).length : Int) = o2 at *
      have hm0 : (0 : Int) ≤ (n0 : Int) := by omega
      clear hr hm
      generalize (figAt m).1 = da at *
      generalize (figAt m).2 = ta at *
      generalize (figAt n0).1 = db at *
      generalize (figAt n0).2 = tb at *
      go_enter Try.func40, Try.ntmps40
      go_wp2_with (first
        | (go_at_call 83; refine (C _).mono ?_; rintro e w' ⟨rfl, rfl⟩)
        | (go_at_call 84; refine (B _).mono ?_; rintro e w1 ⟨rfl, hb1⟩; have hB1 : Below w.heap.size w w1 := Below.trans (by repeat' (first | exact Below.refl _ _ | assumption | refine Below.alloc ?_ (by first | omega | (simp; done) | (simp; omega)) _ | refine Below.drew ?_ | refine Below.setCell ?_ (by first | omega | (simp; done) | (simp; omega)) _)) (hb1.mono (by first | omega | (simp; done) | (simp; omega))); have hz1 := hB1.size; clear hb1)
        | (go_at_call 85; (with_reducible refine (A1 _).mono ?_); rintro e w2 ⟨rfl, hb2⟩; have hB2 : Below w.heap.size w w2 := Below.trans (by repeat' (first | exact Below.refl _ _ | assumption | refine Below.alloc ?_ (by first | omega | (simp; done) | (simp; omega)) _ | refine Below.drew ?_ | refine Below.setCell ?_ (by first | omega | (simp; done) | (simp; omega)) _)) (hb2.mono (by first | omega | (simp; done) | (simp; omega))); have hz2 := hB2.size; clear hb2)
        | (go_at_call 85; (with_reducible refine (A2 _).mono ?_); rintro e w3 ⟨rfl, hb3⟩; have hB3 : Below w.heap.size w w3 := Below.trans (by repeat' (first | exact Below.refl _ _ | assumption | refine Below.alloc ?_ (by first | omega | (simp; done) | (simp; omega)) _ | refine Below.drew ?_ | refine Below.setCell ?_ (by first | omega | (simp; done) | (simp; omega)) _)) (hb3.mono (by first | omega | (simp; done) | (simp; omega))); have hz3 := hB3.size; clear hb3)
        | (go_at_call 102; refine (X _).mono ?_; rintro e w4 ⟨rfl, hb4⟩; have hB4 : Below w.heap.size w w4 := Below.trans (by repeat' (first | exact Below.refl _ _ | assumption | refine Below.alloc ?_ (by first | omega | (simp; done) | (simp; omega)) _ | refine Below.drew ?_ | refine Below.setCell ?_ (by first | omega | (simp; done) | (simp; omega)) _)) (hb4.mono (by first | omega | (simp; done) | (simp; omega))); have hz4 := hB4.size; clear hb4))
      go_ret2
      exact ⟨endPr HV.out, by repeat' (first | exact Below.refl _ _ | assumption | refine Below.alloc ?_ (by first | omega | (simp; done) | (simp; omega)) _ | refine Below.drew ?_ | refine Below.setCell ?_ (by first | omega | (simp; done) | (simp; omega)) _)⟩
  · have HV := Lib.hid (show rReadE s len pt eye = (0, 2) by simp [rReadE, h])
    rw [if_neg h] at C
    clear h
    go_enter Try.func40, Try.ntmps40
    go_wp2_with (first
    | (go_at_call 83; refine (C _).mono ?_; rintro e w' ⟨rfl, rfl⟩))
    go_ret2
    exact ⟨endTwo HV.out, by repeat' (first | exact Below.refl _ _ | assumption | refine Below.alloc ?_ (by first | omega | (simp; done) | (simp; omega)) _ | refine Below.drew ?_ | refine Below.setCell ?_ (by first | omega | (simp; done) | (simp; omega)) _)⟩
end Go.Proofs.Ythnjiiodpjielaa
