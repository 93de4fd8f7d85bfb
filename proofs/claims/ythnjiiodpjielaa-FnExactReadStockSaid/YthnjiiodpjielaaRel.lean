/- Relative errors of figures (layer 2). No condition. -/
import Derived.Test.YthnjiiodpjielaaMay
namespace Go.Proofs.Ythnjiiodpjielaa
open Go.RowKit
set_option linter.unusedVariables false
set_option linter.unusedSimpArgs false

def pS (s : Int) : Int := p10 (max 0 s).toNat
def relOut (da db s : Int) : Int := ceilDiv (1000000 * max (da * pS s - db * pS (-s)) (-(da * pS s - db * pS (-s)))) (db * pS (-s))
def rRel (da ta db tb : Int) : Int × Int := if 2 ≤ ta - tb then (0, 3) else if ta - tb ≤ -7 then (1000000, 0) else if 9000000 < relOut da db (ta - tb) then (0, 3) else (relOut da db (ta - tb), 0)
theorem pS_bd {s : Int} (h1 : -7 ≤ s) (h2 : s ≤ 1) : 1 ≤ pS s ∧ pS s ≤ 10 ∧ 1 ≤ pS (-s) ∧ pS (-s) ≤ 10000000 := by
  rcases (show s = -7 ∨ s = -6 ∨ s = -5 ∨ s = -4 ∨ s = -3 ∨ s = -2 ∨ s = -1 ∨ s = 0 ∨ s = 1 by omega) with rfl | rfl | rfl | rfl | rfl | rfl | rfl | rfl | rfl <;> decide
theorem mul_pos_bd {a b A B : Int} (h1 : 1 ≤ a) (h2 : a ≤ A) (h3 : 1 ≤ b) (h4 : b ≤ B) : a ≤ a * b ∧ 1 ≤ a * b ∧ a * b ≤ A * B := by
  have x1 : a * 1 ≤ a * b := Int.mul_le_mul_of_nonneg_left h3 (by omega)
  have x2 : a * b ≤ A * b := Int.mul_le_mul_of_nonneg_right h2 (by omega)
  have x3 : A * b ≤ A * B := Int.mul_le_mul_of_nonneg_left h4 (by omega)
  rw [Int.mul_one] at x1
  omega
theorem relOut_seven {da db : Int} (ha : Dig da) (hb : Dig db) : relOut da db (-7) = 1000000 := by
  obtain ⟨a1, a2⟩ := ha
  obtain ⟨b1, b2⟩ := hb
  unfold relOut
  rw [show pS (-7) = 1 by decide, show pS (- -7) = 10000000 by decide, Int.mul_one]
  have hd : 0 < db * 10000000 := by omega
  obtain ⟨c1, c2⟩ := ceilDiv_bd (a := 1000000 * max (da - db * 10000000) (-(da - db * 10000000))) hd
  have hm : max (da - db * 10000000) (-(da - db * 10000000)) = db * 10000000 - da := by omega
  rw [hm] at c1 c2 ⊢
  generalize ceilDiv (1000000 * (db * 10000000 - da)) (db * 10000000) = c at *
  generalize hD : db * 10000000 = D at *
  have u1 : D * c < D * 1000001 := by omega
  have u2 : D * 999999 < D * c := by omega
  have := Int.lt_of_mul_lt_mul_left u1 (by omega)
  have := Int.lt_of_mul_lt_mul_left u2 (by omega)
  omega
set_option maxRecDepth 100000 in
set_option maxHeartbeats 2000000 in
theorem relativeError_m7 (da ta db tb : Int) (w : World) (ha : Dig da) (hb : Dig db) (hs : ta - tb = -7) :
    Calls Try.prog 101 #[.agg #[.int .i64 da, .int .i64 ta], .agg #[.int .i64 db, .int .i64 tb]] w fun e w' => e = .returned (.tuple #[.int .i64 (rRel da ta db tb).1, .int .i64 (rRel da ta db tb).2]) ∧ Below w.heap.size w w' := by
  have HX : relOut da db (-7) = ceilDiv (1000000 * max (da - db * 10000000) (-(da - db * 10000000))) (db * 10000000) := by unfold relOut; rw [show pS (-7) = 1 by decide, show pS (-(-7)) = 10000000 by decide]; simp only [Int.mul_one]
  have HV := Lib.hid (show rRel da ta db tb = if 9000000 < ceilDiv (1000000 * max (da - db * 10000000) (-(da - db * 10000000))) (db * 10000000) then (0, 3) else (ceilDiv (1000000 * max (da - db * 10000000) (-(da - db * 10000000))) (db * 10000000), 0) by rw [rRel, if_neg (by omega), if_pos (by omega), ← HX, relOut_seven ha hb]; rfl)
  clear HX
  have ha' := ha
  have hb' := hb
  unfold Dig at ha' hb'
  have emx : (db * 10000000 - da) = max (da - db * 10000000) (-(da - db * 10000000)) := by omega
  have HV2 := Lib.hid (show rRel da ta db tb = if 9000000 < ceilDiv (1000000 * (db * 10000000 - da)) (db * 10000000) then (0, 3) else (ceilDiv (1000000 * (db * 10000000 - da)) (db * 10000000), 0) by rw [HV.out, ← emx])
  have T1 := fun W => ten_any 0 W (by omega) (by omega)
  have T2 := fun W => ten_any 7 W (by omega) (by omega)
  rw [show p10 ((0 : Int)).toNat = 1 by decide] at T1
  rw [show p10 ((7 : Int)).toNat = 10000000 by decide] at T2
  unfold Dig at ha hb
  skip
  have m1 : 0 ≤ (db * 10000000 - da) ∧ (db * 10000000 - da) ≤ 100000000000 := by omega
  have U := fun W => up_any (1000000 * (db * 10000000 - da)) (db * 10000000) W (by omega) (by omega) (by omega) (by omega)
  have ewr : IntKind.i64.wrap (7) = 7 := by decide
  have ea : IntKind.i64.wrap (da) = da := IntWalk.i64_in _ (by omega)
  have eb : IntKind.i64.wrap (db * 10000000) = db * 10000000 := IntWalk.i64_in _ (by omega)
  clear emx
  generalize hX : ceilDiv (1000000 * (db * 10000000 - da)) (db * 10000000) = x at *
  have HX := Lib.hid hX
  clear hX
  go_enter Try.func101, Try.ntmps101
  go_wp2_with fail
  go_region_held3 (fun w' => w'.cell? ⟨w.heap.size, 0, none⟩ = some (.int .i64 da) ∧ w'.cell? ⟨w.heap.size + 1, 0, none⟩ = some (.int .i64 db)) (go_keep) (first
    | (go_at_call 148; (with_reducible refine (T1 _).mono ?_); rintro e w' ⟨rfl, rfl⟩)
    | (go_at_call 148; (with_reducible refine (T2 _).mono ?_); rintro e w' ⟨rfl, rfl⟩))
  all_goals (try clear ea eb ewr)
  all_goals (rcases Int.lt_or_le 9000000 x with hx | hx)
  all_goals (first | (have HE := Lib.hid (HV2.out.trans (if_pos hx))) | (have HE := Lib.hid (HV2.out.trans (if_neg (Int.not_lt.2 hx)))))
  all_goals go_wp2_with (go_at_call 120; (with_reducible refine (U _).mono ?_); rintro e w' ⟨rfl, rfl⟩)
  all_goals go_ret2
  all_goals exact ⟨endTwo HE.out, by repeat' (first | exact Below.refl _ _ | assumption | refine Below.alloc ?_ (by first | omega | (simp; done) | (simp; omega)) _ | refine Below.drew ?_ | refine Below.setCell ?_ (by first | omega | (simp; done) | (simp; omega)) _)⟩
set_option maxRecDepth 100000 in
set_option maxHeartbeats 2000000 in
theorem relativeError_m6 (da ta db tb : Int) (w : World) (ha : Dig da) (hb : Dig db) (hs : ta - tb = -6) :
    Calls Try.prog 101 #[.agg #[.int .i64 da, .int .i64 ta], .agg #[.int .i64 db, .int .i64 tb]] w fun e w' => e = .returned (.tuple #[.int .i64 (rRel da ta db tb).1, .int .i64 (rRel da ta db tb).2]) ∧ Below w.heap.size w w' := by
  have HX : relOut da db (-6) = ceilDiv (1000000 * max (da - db * 1000000) (-(da - db * 1000000))) (db * 1000000) := by unfold relOut; rw [show pS (-6) = 1 by decide, show pS (-(-6)) = 1000000 by decide]; simp only [Int.mul_one]
  have HV := Lib.hid (show rRel da ta db tb = if 9000000 < ceilDiv (1000000 * max (da - db * 1000000) (-(da - db * 1000000))) (db * 1000000) then (0, 3) else (ceilDiv (1000000 * max (da - db * 1000000) (-(da - db * 1000000))) (db * 1000000), 0) by rw [rRel, if_neg (by omega), if_neg (by omega), hs, HX])
  clear HX
  have ha' := ha
  have hb' := hb
  unfold Dig at ha' hb'
  have emx : (db * 1000000 - da) = max (da - db * 1000000) (-(da - db * 1000000)) := by omega
  have HV2 := Lib.hid (show rRel da ta db tb = if 9000000 < ceilDiv (1000000 * (db * 1000000 - da)) (db * 1000000) then (0, 3) else (ceilDiv (1000000 * (db * 1000000 - da)) (db * 1000000), 0) by rw [HV.out, ← emx])
  have T1 := fun W => ten_any 0 W (by omega) (by omega)
  have T2 := fun W => ten_any 6 W (by omega) (by omega)
  rw [show p10 ((0 : Int)).toNat = 1 by decide] at T1
  rw [show p10 ((6 : Int)).toNat = 1000000 by decide] at T2
  unfold Dig at ha hb
  skip
  have m1 : 0 ≤ (db * 1000000 - da) ∧ (db * 1000000 - da) ≤ 100000000000 := by omega
  have U := fun W => up_any (1000000 * (db * 1000000 - da)) (db * 1000000) W (by omega) (by omega) (by omega) (by omega)
  have ewr : IntKind.i64.wrap (6) = 6 := by decide
  have ea : IntKind.i64.wrap (da) = da := IntWalk.i64_in _ (by omega)
  have eb : IntKind.i64.wrap (db * 1000000) = db * 1000000 := IntWalk.i64_in _ (by omega)
  clear emx
  generalize hX : ceilDiv (1000000 * (db * 1000000 - da)) (db * 1000000) = x at *
  have HX := Lib.hid hX
  clear hX
  go_enter Try.func101, Try.ntmps101
  go_wp2_with fail
  go_region_held3 (fun w' => w'.cell? ⟨w.heap.size, 0, none⟩ = some (.int .i64 da) ∧ w'.cell? ⟨w.heap.size + 1, 0, none⟩ = some (.int .i64 db)) (go_keep) (first
    | (go_at_call 148; (with_reducible refine (T1 _).mono ?_); rintro e w' ⟨rfl, rfl⟩)
    | (go_at_call 148; (with_reducible refine (T2 _).mono ?_); rintro e w' ⟨rfl, rfl⟩))
  all_goals (try clear ea eb ewr)
  all_goals (rcases Int.lt_or_le 9000000 x with hx | hx)
  all_goals (first | (have HE := Lib.hid (HV2.out.trans (if_pos hx))) | (have HE := Lib.hid (HV2.out.trans (if_neg (Int.not_lt.2 hx)))))
  all_goals go_wp2_with (go_at_call 120; (with_reducible refine (U _).mono ?_); rintro e w' ⟨rfl, rfl⟩)
  all_goals go_ret2
  all_goals exact ⟨endTwo HE.out, by repeat' (first | exact Below.refl _ _ | assumption | refine Below.alloc ?_ (by first | omega | (simp; done) | (simp; omega)) _ | refine Below.drew ?_ | refine Below.setCell ?_ (by first | omega | (simp; done) | (simp; omega)) _)⟩
set_option maxRecDepth 100000 in
set_option maxHeartbeats 2000000 in
theorem relativeError_m5 (da ta db tb : Int) (w : World) (ha : Dig da) (hb : Dig db) (hs : ta - tb = -5) :
    Calls Try.prog 101 #[.agg #[.int .i64 da, .int .i64 ta], .agg #[.int .i64 db, .int .i64 tb]] w fun e w' => e = .returned (.tuple #[.int .i64 (rRel da ta db tb).1, .int .i64 (rRel da ta db tb).2]) ∧ Below w.heap.size w w' := by
  have HX : relOut da db (-5) = ceilDiv (1000000 * max (da - db * 100000) (-(da - db * 100000))) (db * 100000) := by unfold relOut; rw [show pS (-5) = 1 by decide, show pS (-(-5)) = 100000 by decide]; simp only [Int.mul_one]
  have HV := Lib.hid (show rRel da ta db tb = if 9000000 < ceilDiv (1000000 * max (da - db * 100000) (-(da - db * 100000))) (db * 100000) then (0, 3) else (ceilDiv (1000000 * max (da - db * 100000) (-(da - db * 100000))) (db * 100000), 0) by rw [rRel, if_neg (by omega), if_neg (by omega), hs, HX])
  clear HX
  have ha' := ha
  have hb' := hb
  unfold Dig at ha' hb'
  have emx : (db * 100000 - da) = max (da - db * 100000) (-(da - db * 100000)) := by omega
  have HV2 := Lib.hid (show rRel da ta db tb = if 9000000 < ceilDiv (1000000 * (db * 100000 - da)) (db * 100000) then (0, 3) else (ceilDiv (1000000 * (db * 100000 - da)) (db * 100000), 0) by rw [HV.out, ← emx])
  have T1 := fun W => ten_any 0 W (by omega) (by omega)
  have T2 := fun W => ten_any 5 W (by omega) (by omega)
  rw [show p10 ((0 : Int)).toNat = 1 by decide] at T1
  rw [show p10 ((5 : Int)).toNat = 100000 by decide] at T2
  unfold Dig at ha hb
  skip
  have m1 : 0 ≤ (db * 100000 - da) ∧ (db * 100000 - da) ≤ 100000000000 := by omega
  have U := fun W => up_any (1000000 * (db * 100000 - da)) (db * 100000) W (by omega) (by omega) (by omega) (by omega)
  have ewr : IntKind.i64.wrap (5) = 5 := by decide
  have ea : IntKind.i64.wrap (da) = da := IntWalk.i64_in _ (by omega)
  have eb : IntKind.i64.wrap (db * 100000) = db * 100000 := IntWalk.i64_in _ (by omega)
  clear emx
  generalize hX : ceilDiv (1000000 * (db * 100000 - da)) (db * 100000) = x at *
  have HX := Lib.hid hX
  clear hX
  go_enter Try.func101, Try.ntmps101
  go_wp2_with fail
  go_region_held3 (fun w' => w'.cell? ⟨w.heap.size, 0, none⟩ = some (.int .i64 da) ∧ w'.cell? ⟨w.heap.size + 1, 0, none⟩ = some (.int .i64 db)) (go_keep) (first
    | (go_at_call 148; (with_reducible refine (T1 _).mono ?_); rintro e w' ⟨rfl, rfl⟩)
    | (go_at_call 148; (with_reducible refine (T2 _).mono ?_); rintro e w' ⟨rfl, rfl⟩))
  all_goals (try clear ea eb ewr)
  all_goals (rcases Int.lt_or_le 9000000 x with hx | hx)
  all_goals (first | (have HE := Lib.hid (HV2.out.trans (if_pos hx))) | (have HE := Lib.hid (HV2.out.trans (if_neg (Int.not_lt.2 hx)))))
  all_goals go_wp2_with (go_at_call 120; (with_reducible refine (U _).mono ?_); rintro e w' ⟨rfl, rfl⟩)
  all_goals go_ret2
  all_goals exact ⟨endTwo HE.out, by repeat' (first | exact Below.refl _ _ | assumption | refine Below.alloc ?_ (by first | omega | (simp; done) | (simp; omega)) _ | refine Below.drew ?_ | refine Below.setCell ?_ (by first | omega | (simp; done) | (simp; omega)) _)⟩
set_option maxRecDepth 100000 in
set_option maxHeartbeats 2000000 in
theorem relativeError_m4 (da ta db tb : Int) (w : World) (ha : Dig da) (hb : Dig db) (hs : ta - tb = -4) :
    Calls Try.prog 101 #[.agg #[.int .i64 da, .int .i64 ta], .agg #[.int .i64 db, .int .i64 tb]] w fun e w' => e = .returned (.tuple #[.int .i64 (rRel da ta db tb).1, .int .i64 (rRel da ta db tb).2]) ∧ Below w.heap.size w w' := by
  have HX : relOut da db (-4) = ceilDiv (1000000 * max (da - db * 10000) (-(da - db * 10000))) (db * 10000) := by unfold relOut; rw [show pS (-4) = 1 by decide, show pS (-(-4)) = 10000 by decide]; simp only [Int.mul_one]
  have HV := Lib.hid (show rRel da ta db tb = if 9000000 < ceilDiv (1000000 * max (da - db * 10000) (-(da - db * 10000))) (db * 10000) then (0, 3) else (ceilDiv (1000000 * max (da - db * 10000) (-(da - db * 10000))) (db * 10000), 0) by rw [rRel, if_neg (by omega), if_neg (by omega), hs, HX])
  clear HX
  have ha' := ha
  have hb' := hb
  unfold Dig at ha' hb'
  have emx : (db * 10000 - da) = max (da - db * 10000) (-(da - db * 10000)) := by omega
  have HV2 := Lib.hid (show rRel da ta db tb = if 9000000 < ceilDiv (1000000 * (db * 10000 - da)) (db * 10000) then (0, 3) else (ceilDiv (1000000 * (db * 10000 - da)) (db * 10000), 0) by rw [HV.out, ← emx])
  have T1 := fun W => ten_any 0 W (by omega) (by omega)
  have T2 := fun W => ten_any 4 W (by omega) (by omega)
  rw [show p10 ((0 : Int)).toNat = 1 by decide] at T1
  rw [show p10 ((4 : Int)).toNat = 10000 by decide] at T2
  unfold Dig at ha hb
  skip
  have m1 : 0 ≤ (db * 10000 - da) ∧ (db * 10000 - da) ≤ 100000000000 := by omega
  have U := fun W => up_any (1000000 * (db * 10000 - da)) (db * 10000) W (by omega) (by omega) (by omega) (by omega)
  have ewr : IntKind.i64.wrap (4) = 4 := by decide
  have ea : IntKind.i64.wrap (da) = da := IntWalk.i64_in _ (by omega)
  have eb : IntKind.i64.wrap (db * 10000) = db * 10000 := IntWalk.i64_in _ (by omega)
  clear emx
  generalize hX : ceilDiv (1000000 * (db * 10000 - da)) (db * 10000) = x at *
  have HX := Lib.hid hX
  clear hX
  go_enter Try.func101, Try.ntmps101
  go_wp2_with fail
  go_region_held3 (fun w' => w'.cell? ⟨w.heap.size, 0, none⟩ = some (.int .i64 da) ∧ w'.cell? ⟨w.heap.size + 1, 0, none⟩ = some (.int .i64 db)) (go_keep) (first
    | (go_at_call 148; (with_reducible refine (T1 _).mono ?_); rintro e w' ⟨rfl, rfl⟩)
    | (go_at_call 148; (with_reducible refine (T2 _).mono ?_); rintro e w' ⟨rfl, rfl⟩))
  all_goals (try clear ea eb ewr)
  all_goals (rcases Int.lt_or_le 9000000 x with hx | hx)
  all_goals (first | (have HE := Lib.hid (HV2.out.trans (if_pos hx))) | (have HE := Lib.hid (HV2.out.trans (if_neg (Int.not_lt.2 hx)))))
  all_goals go_wp2_with (go_at_call 120; (with_reducible refine (U _).mono ?_); rintro e w' ⟨rfl, rfl⟩)
  all_goals go_ret2
  all_goals exact ⟨endTwo HE.out, by repeat' (first | exact Below.refl _ _ | assumption | refine Below.alloc ?_ (by first | omega | (simp; done) | (simp; omega)) _ | refine Below.drew ?_ | refine Below.setCell ?_ (by first | omega | (simp; done) | (simp; omega)) _)⟩
set_option maxRecDepth 100000 in
set_option maxHeartbeats 2000000 in
theorem relativeError_m3 (da ta db tb : Int) (w : World) (ha : Dig da) (hb : Dig db) (hs : ta - tb = -3) :
    Calls Try.prog 101 #[.agg #[.int .i64 da, .int .i64 ta], .agg #[.int .i64 db, .int .i64 tb]] w fun e w' => e = .returned (.tuple #[.int .i64 (rRel da ta db tb).1, .int .i64 (rRel da ta db tb).2]) ∧ Below w.heap.size w w' := by
  have HX : relOut da db (-3) = ceilDiv (1000000 * max (da - db * 1000) (-(da - db * 1000))) (db * 1000) := by unfold relOut; rw [show pS (-3) = 1 by decide, show pS (-(-3)) = 1000 by decide]; simp only [Int.mul_one]
  have HV := Lib.hid (show rRel da ta db tb = if 9000000 < ceilDiv (1000000 * max (da - db * 1000) (-(da - db * 1000))) (db * 1000) then (0, 3) else (ceilDiv (1000000 * max (da - db * 1000) (-(da - db * 1000))) (db * 1000), 0) by rw [rRel, if_neg (by omega), if_neg (by omega), hs, HX])
  clear HX
  have ha' := ha
  have hb' := hb
  unfold Dig at ha' hb'
  have emx : (db * 1000 - da) = max (da - db * 1000) (-(da - db * 1000)) := by omega
  have HV2 := Lib.hid (show rRel da ta db tb = if 9000000 < ceilDiv (1000000 * (db * 1000 - da)) (db * 1000) then (0, 3) else (ceilDiv (1000000 * (db * 1000 - da)) (db * 1000), 0) by rw [HV.out, ← emx])
  have T1 := fun W => ten_any 0 W (by omega) (by omega)
  have T2 := fun W => ten_any 3 W (by omega) (by omega)
  rw [show p10 ((0 : Int)).toNat = 1 by decide] at T1
  rw [show p10 ((3 : Int)).toNat = 1000 by decide] at T2
  unfold Dig at ha hb
  skip
  have m1 : 0 ≤ (db * 1000 - da) ∧ (db * 1000 - da) ≤ 100000000000 := by omega
  have U := fun W => up_any (1000000 * (db * 1000 - da)) (db * 1000) W (by omega) (by omega) (by omega) (by omega)
  have ewr : IntKind.i64.wrap (3) = 3 := by decide
  have ea : IntKind.i64.wrap (da) = da := IntWalk.i64_in _ (by omega)
  have eb : IntKind.i64.wrap (db * 1000) = db * 1000 := IntWalk.i64_in _ (by omega)
  clear emx
  generalize hX : ceilDiv (1000000 * (db * 1000 - da)) (db * 1000) = x at *
  have HX := Lib.hid hX
  clear hX
  go_enter Try.func101, Try.ntmps101
  go_wp2_with fail
  go_region_held3 (fun w' => w'.cell? ⟨w.heap.size, 0, none⟩ = some (.int .i64 da) ∧ w'.cell? ⟨w.heap.size + 1, 0, none⟩ = some (.int .i64 db)) (go_keep) (first
    | (go_at_call 148; (with_reducible refine (T1 _).mono ?_); rintro e w' ⟨rfl, rfl⟩)
    | (go_at_call 148; (with_reducible refine (T2 _).mono ?_); rintro e w' ⟨rfl, rfl⟩))
  all_goals (try clear ea eb ewr)
  all_goals (rcases Int.lt_or_le 9000000 x with hx | hx)
  all_goals (first | (have HE := Lib.hid (HV2.out.trans (if_pos hx))) | (have HE := Lib.hid (HV2.out.trans (if_neg (Int.not_lt.2 hx)))))
  all_goals go_wp2_with (go_at_call 120; (with_reducible refine (U _).mono ?_); rintro e w' ⟨rfl, rfl⟩)
  all_goals go_ret2
  all_goals exact ⟨endTwo HE.out, by repeat' (first | exact Below.refl _ _ | assumption | refine Below.alloc ?_ (by first | omega | (simp; done) | (simp; omega)) _ | refine Below.drew ?_ | refine Below.setCell ?_ (by first | omega | (simp; done) | (simp; omega)) _)⟩
set_option maxRecDepth 100000 in
set_option maxHeartbeats 2000000 in
theorem relativeError_m2 (da ta db tb : Int) (w : World) (ha : Dig da) (hb : Dig db) (hs : ta - tb = -2) :
    Calls Try.prog 101 #[.agg #[.int .i64 da, .int .i64 ta], .agg #[.int .i64 db, .int .i64 tb]] w fun e w' => e = .returned (.tuple #[.int .i64 (rRel da ta db tb).1, .int .i64 (rRel da ta db tb).2]) ∧ Below w.heap.size w w' := by
  have HX : relOut da db (-2) = ceilDiv (1000000 * max (da - db * 100) (-(da - db * 100))) (db * 100) := by unfold relOut; rw [show pS (-2) = 1 by decide, show pS (-(-2)) = 100 by decide]; simp only [Int.mul_one]
  have HV := Lib.hid (show rRel da ta db tb = if 9000000 < ceilDiv (1000000 * max (da - db * 100) (-(da - db * 100))) (db * 100) then (0, 3) else (ceilDiv (1000000 * max (da - db * 100) (-(da - db * 100))) (db * 100), 0) by rw [rRel, if_neg (by omega), if_neg (by omega), hs, HX])
  clear HX
  have ha' := ha
  have hb' := hb
  unfold Dig at ha' hb'
  have emx : (db * 100 - da) = max (da - db * 100) (-(da - db * 100)) := by omega
  have HV2 := Lib.hid (show rRel da ta db tb = if 9000000 < ceilDiv (1000000 * (db * 100 - da)) (db * 100) then (0, 3) else (ceilDiv (1000000 * (db * 100 - da)) (db * 100), 0) by rw [HV.out, ← emx])
  have T1 := fun W => ten_any 0 W (by omega) (by omega)
  have T2 := fun W => ten_any 2 W (by omega) (by omega)
  rw [show p10 ((0 : Int)).toNat = 1 by decide] at T1
  rw [show p10 ((2 : Int)).toNat = 100 by decide] at T2
  unfold Dig at ha hb
  skip
  have m1 : 0 ≤ (db * 100 - da) ∧ (db * 100 - da) ≤ 100000000000 := by omega
  have U := fun W => up_any (1000000 * (db * 100 - da)) (db * 100) W (by omega) (by omega) (by omega) (by omega)
  have ewr : IntKind.i64.wrap (2) = 2 := by decide
  have ea : IntKind.i64.wrap (da) = da := IntWalk.i64_in _ (by omega)
  have eb : IntKind.i64.wrap (db * 100) = db * 100 := IntWalk.i64_in _ (by omega)
  clear emx
  generalize hX : ceilDiv (1000000 * (db * 100 - da)) (db * 100) = x at *
  have HX := Lib.hid hX
  clear hX
  go_enter Try.func101, Try.ntmps101
  go_wp2_with fail
  go_region_held3 (fun w' => w'.cell? ⟨w.heap.size, 0, none⟩ = some (.int .i64 da) ∧ w'.cell? ⟨w.heap.size + 1, 0, none⟩ = some (.int .i64 db)) (go_keep) (first
    | (go_at_call 148; (with_reducible refine (T1 _).mono ?_); rintro e w' ⟨rfl, rfl⟩)
    | (go_at_call 148; (with_reducible refine (T2 _).mono ?_); rintro e w' ⟨rfl, rfl⟩))
  all_goals (try clear ea eb ewr)
  all_goals (rcases Int.lt_or_le 9000000 x with hx | hx)
  all_goals (first | (have HE := Lib.hid (HV2.out.trans (if_pos hx))) | (have HE := Lib.hid (HV2.out.trans (if_neg (Int.not_lt.2 hx)))))
  all_goals go_wp2_with (go_at_call 120; (with_reducible refine (U _).mono ?_); rintro e w' ⟨rfl, rfl⟩)
  all_goals go_ret2
  all_goals exact ⟨endTwo HE.out, by repeat' (first | exact Below.refl _ _ | assumption | refine Below.alloc ?_ (by first | omega | (simp; done) | (simp; omega)) _ | refine Below.drew ?_ | refine Below.setCell ?_ (by first | omega | (simp; done) | (simp; omega)) _)⟩
set_option maxRecDepth 100000 in
set_option maxHeartbeats 2000000 in
theorem relativeError_m1 (da ta db tb : Int) (w : World) (ha : Dig da) (hb : Dig db) (hs : ta - tb = -1) :
    Calls Try.prog 101 #[.agg #[.int .i64 da, .int .i64 ta], .agg #[.int .i64 db, .int .i64 tb]] w fun e w' => e = .returned (.tuple #[.int .i64 (rRel da ta db tb).1, .int .i64 (rRel da ta db tb).2]) ∧ Below w.heap.size w w' := by
  have HX : relOut da db (-1) = ceilDiv (1000000 * max (da - db * 10) (-(da - db * 10))) (db * 10) := by unfold relOut; rw [show pS (-1) = 1 by decide, show pS (-(-1)) = 10 by decide]; simp only [Int.mul_one]
  have HV := Lib.hid (show rRel da ta db tb = if 9000000 < ceilDiv (1000000 * max (da - db * 10) (-(da - db * 10))) (db * 10) then (0, 3) else (ceilDiv (1000000 * max (da - db * 10) (-(da - db * 10))) (db * 10), 0) by rw [rRel, if_neg (by omega), if_neg (by omega), hs, HX])
  clear HX
  have ha' := ha
  have hb' := hb
  unfold Dig at ha' hb'
  have emx : (db * 10 - da) = max (da - db * 10) (-(da - db * 10)) := by omega
  have HV2 := Lib.hid (show rRel da ta db tb = if 9000000 < ceilDiv (1000000 * (db * 10 - da)) (db * 10) then (0, 3) else (ceilDiv (1000000 * (db * 10 - da)) (db * 10), 0) by rw [HV.out, ← emx])
  have T1 := fun W => ten_any 0 W (by omega) (by omega)
  have T2 := fun W => ten_any 1 W (by omega) (by omega)
  rw [show p10 ((0 : Int)).toNat = 1 by decide] at T1
  rw [show p10 ((1 : Int)).toNat = 10 by decide] at T2
  unfold Dig at ha hb
  skip
  have m1 : 0 ≤ (db * 10 - da) ∧ (db * 10 - da) ≤ 100000000000 := by omega
  have U := fun W => up_any (1000000 * (db * 10 - da)) (db * 10) W (by omega) (by omega) (by omega) (by omega)
  have ewr : IntKind.i64.wrap (1) = 1 := by decide
  have ea : IntKind.i64.wrap (da) = da := IntWalk.i64_in _ (by omega)
  have eb : IntKind.i64.wrap (db * 10) = db * 10 := IntWalk.i64_in _ (by omega)
  clear emx
  generalize hX : ceilDiv (1000000 * (db * 10 - da)) (db * 10) = x at *
  have HX := Lib.hid hX
  clear hX
  go_enter Try.func101, Try.ntmps101
  go_wp2_with fail
  go_region_held3 (fun w' => w'.cell? ⟨w.heap.size, 0, none⟩ = some (.int .i64 da) ∧ w'.cell? ⟨w.heap.size + 1, 0, none⟩ = some (.int .i64 db)) (go_keep) (first
    | (go_at_call 148; (with_reducible refine (T1 _).mono ?_); rintro e w' ⟨rfl, rfl⟩)
    | (go_at_call 148; (with_reducible refine (T2 _).mono ?_); rintro e w' ⟨rfl, rfl⟩))
  all_goals (try clear ea eb ewr)
  all_goals (rcases Int.lt_or_le 9000000 x with hx | hx)
  all_goals (first | (have HE := Lib.hid (HV2.out.trans (if_pos hx))) | (have HE := Lib.hid (HV2.out.trans (if_neg (Int.not_lt.2 hx)))))
  all_goals go_wp2_with (go_at_call 120; (with_reducible refine (U _).mono ?_); rintro e w' ⟨rfl, rfl⟩)
  all_goals go_ret2
  all_goals exact ⟨endTwo HE.out, by repeat' (first | exact Below.refl _ _ | assumption | refine Below.alloc ?_ (by first | omega | (simp; done) | (simp; omega)) _ | refine Below.drew ?_ | refine Below.setCell ?_ (by first | omega | (simp; done) | (simp; omega)) _)⟩
set_option maxRecDepth 100000 in
set_option maxHeartbeats 2000000 in
theorem relativeError_0a (da ta db tb : Int) (w : World) (ha : Dig da) (hb : Dig db) (hs : ta - tb = 0) (hc : da < db) :
    Calls Try.prog 101 #[.agg #[.int .i64 da, .int .i64 ta], .agg #[.int .i64 db, .int .i64 tb]] w fun e w' => e = .returned (.tuple #[.int .i64 (rRel da ta db tb).1, .int .i64 (rRel da ta db tb).2]) ∧ Below w.heap.size w w' := by
  have HX : relOut da db (0) = ceilDiv (1000000 * max (da - db) (-(da - db))) (db) := by unfold relOut; rw [show pS (0) = 1 by decide, show pS (-(0)) = 1 by decide]; simp only [Int.mul_one]
  have HV := Lib.hid (show rRel da ta db tb = if 9000000 < ceilDiv (1000000 * max (da - db) (-(da - db))) (db) then (0, 3) else (ceilDiv (1000000 * max (da - db) (-(da - db))) (db), 0) by rw [rRel, if_neg (by omega), if_neg (by omega), hs, HX])
  clear HX
  have ha' := ha
  have hb' := hb
  unfold Dig at ha' hb'
  have emx : (db - da) = max (da - db) (-(da - db)) := by omega
  have HV2 := Lib.hid (show rRel da ta db tb = if 9000000 < ceilDiv (1000000 * (db - da)) (db) then (0, 3) else (ceilDiv (1000000 * (db - da)) (db), 0) by rw [HV.out, ← emx])
  have T1 := fun W => ten_any 0 W (by omega) (by omega)
  have T2 := fun W => ten_any 0 W (by omega) (by omega)
  rw [show p10 ((0 : Int)).toNat = 1 by decide] at T1
  rw [show p10 ((0 : Int)).toNat = 1 by decide] at T2
  unfold Dig at ha hb
  skip
  have m1 : 0 ≤ (db - da) ∧ (db - da) ≤ 100000000000 := by omega
  have U := fun W => up_any (1000000 * (db - da)) (db) W (by omega) (by omega) (by omega) (by omega)
  have ewr : IntKind.i64.wrap (0) = 0 := by decide
  have ea : IntKind.i64.wrap (da) = da := IntWalk.i64_in _ (by omega)
  have eb : IntKind.i64.wrap (db) = db := IntWalk.i64_in _ (by omega)
  clear emx
  generalize hX : ceilDiv (1000000 * (db - da)) (db) = x at *
  have HX := Lib.hid hX
  clear hX
  go_enter Try.func101, Try.ntmps101
  go_wp2_with fail
  go_region_held3 (fun w' => w'.cell? ⟨w.heap.size, 0, none⟩ = some (.int .i64 da) ∧ w'.cell? ⟨w.heap.size + 1, 0, none⟩ = some (.int .i64 db)) (go_keep) (first
    | (go_at_call 148; (with_reducible refine (T1 _).mono ?_); rintro e w' ⟨rfl, rfl⟩)
    | (go_at_call 148; (with_reducible refine (T2 _).mono ?_); rintro e w' ⟨rfl, rfl⟩))
  all_goals (try clear ea eb ewr)
  all_goals (rcases Int.lt_or_le 9000000 x with hx | hx)
  all_goals (first | (have HE := Lib.hid (HV2.out.trans (if_pos hx))) | (have HE := Lib.hid (HV2.out.trans (if_neg (Int.not_lt.2 hx)))))
  all_goals go_wp2_with (go_at_call 120; (with_reducible refine (U _).mono ?_); rintro e w' ⟨rfl, rfl⟩)
  all_goals go_ret2
  all_goals exact ⟨endTwo HE.out, by repeat' (first | exact Below.refl _ _ | assumption | refine Below.alloc ?_ (by first | omega | (simp; done) | (simp; omega)) _ | refine Below.drew ?_ | refine Below.setCell ?_ (by first | omega | (simp; done) | (simp; omega)) _)⟩
set_option maxRecDepth 100000 in
set_option maxHeartbeats 2000000 in
theorem relativeError_0b (da ta db tb : Int) (w : World) (ha : Dig da) (hb : Dig db) (hs : ta - tb = 0) (hc : db < da) :
    Calls Try.prog 101 #[.agg #[.int .i64 da, .int .i64 ta], .agg #[.int .i64 db, .int .i64 tb]] w fun e w' => e = .returned (.tuple #[.int .i64 (rRel da ta db tb).1, .int .i64 (rRel da ta db tb).2]) ∧ Below w.heap.size w w' := by
  have HX : relOut da db (0) = ceilDiv (1000000 * max (da - db) (-(da - db))) (db) := by unfold relOut; rw [show pS (0) = 1 by decide, show pS (-(0)) = 1 by decide]; simp only [Int.mul_one]
  have HV := Lib.hid (show rRel da ta db tb = if 9000000 < ceilDiv (1000000 * max (da - db) (-(da - db))) (db) then (0, 3) else (ceilDiv (1000000 * max (da - db) (-(da - db))) (db), 0) by rw [rRel, if_neg (by omega), if_neg (by omega), hs, HX])
  clear HX
  have ha' := ha
  have hb' := hb
  unfold Dig at ha' hb'
  have emx : (da - db) = max (da - db) (-(da - db)) := by omega
  have HV2 := Lib.hid (show rRel da ta db tb = if 9000000 < ceilDiv (1000000 * (da - db)) (db) then (0, 3) else (ceilDiv (1000000 * (da - db)) (db), 0) by rw [HV.out, ← emx])
  have T1 := fun W => ten_any 0 W (by omega) (by omega)
  have T2 := fun W => ten_any 0 W (by omega) (by omega)
  rw [show p10 ((0 : Int)).toNat = 1 by decide] at T1
  rw [show p10 ((0 : Int)).toNat = 1 by decide] at T2
  unfold Dig at ha hb
  skip
  have m1 : 0 ≤ (da - db) ∧ (da - db) ≤ 100000000000 := by omega
  have U := fun W => up_any (1000000 * (da - db)) (db) W (by omega) (by omega) (by omega) (by omega)
  have ewr : IntKind.i64.wrap (0) = 0 := by decide
  have ea : IntKind.i64.wrap (da) = da := IntWalk.i64_in _ (by omega)
  have eb : IntKind.i64.wrap (db) = db := IntWalk.i64_in _ (by omega)
  clear emx
  generalize hX : ceilDiv (1000000 * (da - db)) (db) = x at *
  have HX := Lib.hid hX
  clear hX
  go_enter Try.func101, Try.ntmps101
  go_wp2_with fail
  go_region_held3 (fun w' => w'.cell? ⟨w.heap.size, 0, none⟩ = some (.int .i64 da) ∧ w'.cell? ⟨w.heap.size + 1, 0, none⟩ = some (.int .i64 db)) (go_keep) (first
    | (go_at_call 148; (with_reducible refine (T1 _).mono ?_); rintro e w' ⟨rfl, rfl⟩)
    | (go_at_call 148; (with_reducible refine (T2 _).mono ?_); rintro e w' ⟨rfl, rfl⟩))
  all_goals (try clear ea eb ewr)
  all_goals (rcases Int.lt_or_le 9000000 x with hx | hx)
  all_goals (first | (have HE := Lib.hid (HV2.out.trans (if_pos hx))) | (have HE := Lib.hid (HV2.out.trans (if_neg (Int.not_lt.2 hx)))))
  all_goals go_wp2_with (go_at_call 120; (with_reducible refine (U _).mono ?_); rintro e w' ⟨rfl, rfl⟩)
  all_goals go_ret2
  all_goals exact ⟨endTwo HE.out, by repeat' (first | exact Below.refl _ _ | assumption | refine Below.alloc ?_ (by first | omega | (simp; done) | (simp; omega)) _ | refine Below.drew ?_ | refine Below.setCell ?_ (by first | omega | (simp; done) | (simp; omega)) _)⟩
set_option maxRecDepth 100000 in
set_option maxHeartbeats 2000000 in
theorem relativeError_0c (da ta tb : Int) (w : World) (ha : Dig da) (hs : ta - tb = 0) :
    Calls Try.prog 101 #[.agg #[.int .i64 da, .int .i64 ta], .agg #[.int .i64 da, .int .i64 tb]] w fun e w' => e = .returned (.tuple #[.int .i64 (rRel da ta da tb).1, .int .i64 (rRel da ta da tb).2]) ∧ Below w.heap.size w w' := by
  have hb := ha
  have HX : relOut da da (0) = ceilDiv (1000000 * max (da - da) (-(da - da))) (da) := by unfold relOut; rw [show pS (0) = 1 by decide, show pS (-(0)) = 1 by decide]; simp only [Int.mul_one]
  have HV := Lib.hid (show rRel da ta da tb = if 9000000 < ceilDiv (1000000 * max (da - da) (-(da - da))) (da) then (0, 3) else (ceilDiv (1000000 * max (da - da) (-(da - da))) (da), 0) by rw [rRel, if_neg (by omega), if_neg (by omega), hs, HX])
  clear HX
  have ha' := ha
  have hb' := hb
  unfold Dig at ha' hb'
  have emx : 0 = max (da - da) (-(da - da)) := by omega
  have HV2 := Lib.hid (show rRel da ta da tb = if 9000000 < ceilDiv (1000000 * 0) (da) then (0, 3) else (ceilDiv (1000000 * 0) (da), 0) by rw [HV.out, ← emx])
  have T1 := fun W => ten_any 0 W (by omega) (by omega)
  have T2 := fun W => ten_any 0 W (by omega) (by omega)
  rw [show p10 ((0 : Int)).toNat = 1 by decide] at T1
  rw [show p10 ((0 : Int)).toNat = 1 by decide] at T2
  unfold Dig at ha hb
  skip
  have m1 : 0 ≤ 0 ∧ 0 ≤ 100000000000 := by omega
  have U := fun W => up_any 0 (da) W (by omega) (by omega) (by omega) (by omega)
  have ewr : IntKind.i64.wrap (0) = 0 := by decide
  have ea : IntKind.i64.wrap (da) = da := IntWalk.i64_in _ (by omega)
  have eb : IntKind.i64.wrap (da) = da := IntWalk.i64_in _ (by omega)
  clear emx
  replace HV2 : Hid (rRel da ta da tb = if 9000000 < ceilDiv 0 da then (0, 3) else (ceilDiv 0 da, 0)) := HV2
  generalize hX : ceilDiv 0 (da) = x at *
  have HX := Lib.hid hX
  clear hX
  go_enter Try.func101, Try.ntmps101
  go_wp2_with fail
  go_region_held3 (fun w' => w'.cell? ⟨w.heap.size, 0, none⟩ = some (.int .i64 da) ∧ w'.cell? ⟨w.heap.size + 1, 0, none⟩ = some (.int .i64 da)) (go_keep) (first
    | (go_at_call 148; (with_reducible refine (T1 _).mono ?_); rintro e w' ⟨rfl, rfl⟩)
    | (go_at_call 148; (with_reducible refine (T2 _).mono ?_); rintro e w' ⟨rfl, rfl⟩))
  all_goals (try clear ea eb ewr)
  all_goals (rcases Int.lt_or_le 9000000 x with hx | hx)
  all_goals (first | (have HE := Lib.hid (HV2.out.trans (if_pos hx))) | (have HE := Lib.hid (HV2.out.trans (if_neg (Int.not_lt.2 hx)))))
  all_goals go_wp2_with (go_at_call 120; (with_reducible refine (U _).mono ?_); rintro e w' ⟨rfl, rfl⟩)
  all_goals go_ret2
  all_goals exact ⟨endTwo HE.out, by repeat' (first | exact Below.refl _ _ | assumption | refine Below.alloc ?_ (by first | omega | (simp; done) | (simp; omega)) _ | refine Below.drew ?_ | refine Below.setCell ?_ (by first | omega | (simp; done) | (simp; omega)) _)⟩
set_option maxRecDepth 100000 in
set_option maxHeartbeats 2000000 in
theorem relativeError_1 (da ta db tb : Int) (w : World) (ha : Dig da) (hb : Dig db) (hs : ta - tb = 1) :
    Calls Try.prog 101 #[.agg #[.int .i64 da, .int .i64 ta], .agg #[.int .i64 db, .int .i64 tb]] w fun e w' => e = .returned (.tuple #[.int .i64 (rRel da ta db tb).1, .int .i64 (rRel da ta db tb).2]) ∧ Below w.heap.size w w' := by
  have HX : relOut da db (1) = ceilDiv (1000000 * max (da * 10 - db) (-(da * 10 - db))) (db) := by unfold relOut; rw [show pS (1) = 10 by decide, show pS (-(1)) = 1 by decide]; simp only [Int.mul_one]
  have HV := Lib.hid (show rRel da ta db tb = if 9000000 < ceilDiv (1000000 * max (da * 10 - db) (-(da * 10 - db))) (db) then (0, 3) else (ceilDiv (1000000 * max (da * 10 - db) (-(da * 10 - db))) (db), 0) by rw [rRel, if_neg (by omega), if_neg (by omega), hs, HX])
  clear HX
  have ha' := ha
  have hb' := hb
  unfold Dig at ha' hb'
  have emx : (da * 10 - db) = max (da * 10 - db) (-(da * 10 - db)) := by omega
  have HV2 := Lib.hid (show rRel da ta db tb = if 9000000 < ceilDiv (1000000 * (da * 10 - db)) (db) then (0, 3) else (ceilDiv (1000000 * (da * 10 - db)) (db), 0) by rw [HV.out, ← emx])
  have T1 := fun W => ten_any 1 W (by omega) (by omega)
  have T2 := fun W => ten_any 0 W (by omega) (by omega)
  rw [show p10 ((1 : Int)).toNat = 10 by decide] at T1
  rw [show p10 ((0 : Int)).toNat = 1 by decide] at T2
  unfold Dig at ha hb
  skip
  have m1 : 0 ≤ (da * 10 - db) ∧ (da * 10 - db) ≤ 100000000000 := by omega
  have U := fun W => up_any (1000000 * (da * 10 - db)) (db) W (by omega) (by omega) (by omega) (by omega)
  have ewr : IntKind.i64.wrap (-1) = -1 := by decide
  have ea : IntKind.i64.wrap (da * 10) = da * 10 := IntWalk.i64_in _ (by omega)
  have eb : IntKind.i64.wrap (db) = db := IntWalk.i64_in _ (by omega)
  clear emx
  generalize hX : ceilDiv (1000000 * (da * 10 - db)) (db) = x at *
  have HX := Lib.hid hX
  clear hX
  go_enter Try.func101, Try.ntmps101
  go_wp2_with fail
  go_region_held3 (fun w' => w'.cell? ⟨w.heap.size, 0, none⟩ = some (.int .i64 da) ∧ w'.cell? ⟨w.heap.size + 1, 0, none⟩ = some (.int .i64 db)) (go_keep) (first
    | (go_at_call 148; (with_reducible refine (T1 _).mono ?_); rintro e w' ⟨rfl, rfl⟩)
    | (go_at_call 148; (with_reducible refine (T2 _).mono ?_); rintro e w' ⟨rfl, rfl⟩))
  all_goals (try clear ea eb ewr)
  all_goals (rcases Int.lt_or_le 9000000 x with hx | hx)
  all_goals (first | (have HE := Lib.hid (HV2.out.trans (if_pos hx))) | (have HE := Lib.hid (HV2.out.trans (if_neg (Int.not_lt.2 hx)))))
  all_goals go_wp2_with (go_at_call 120; (with_reducible refine (U _).mono ?_); rintro e w' ⟨rfl, rfl⟩)
  all_goals go_ret2
  all_goals exact ⟨endTwo HE.out, by repeat' (first | exact Below.refl _ _ | assumption | refine Below.alloc ?_ (by first | omega | (simp; done) | (simp; omega)) _ | refine Below.drew ?_ | refine Below.setCell ?_ (by first | omega | (simp; done) | (simp; omega)) _)⟩
set_option maxRecDepth 100000 in
set_option maxHeartbeats 2000000 in
theorem relativeError_any (da ta db tb : Int) (w : World) (ha : Dig da) (hb : Dig db) (ta1 : -1000 ≤ ta) (ta2 : ta ≤ 1000) (tb1 : -1000 ≤ tb) (tb2 : tb ≤ 1000) :
    Calls Try.prog 101 #[.agg #[.int .i64 da, .int .i64 ta], .agg #[.int .i64 db, .int .i64 tb]] w fun e w' => e = .returned (.tuple #[.int .i64 (rRel da ta db tb).1, .int .i64 (rRel da ta db tb).2]) ∧ Below w.heap.size w w' := by
  by_cases h2 : 2 ≤ ta - tb
  · have HV := Lib.hid (show rRel da ta db tb = (0, 3) by rw [rRel, if_pos h2])
    go_enter Try.func101, Try.ntmps101
    go_wp2_with fail
    go_ret2
    exact ⟨endTwo HV.out, by repeat' (first | exact Below.refl _ _ | assumption | refine Below.alloc ?_ (by first | omega | (simp; done) | (simp; omega)) _ | refine Below.drew ?_ | refine Below.setCell ?_ (by first | omega | (simp; done) | (simp; omega)) _)⟩
  · by_cases h8 : ta - tb ≤ -8
    · have HV := Lib.hid (show rRel da ta db tb = (1000000, 0) by rw [rRel, if_neg h2, if_pos (by omega)])
      go_enter Try.func101, Try.ntmps101
      go_wp2_with fail
      go_ret2
      exact ⟨endTwo HV.out, by repeat' (first | exact Below.refl _ _ | assumption | refine Below.alloc ?_ (by first | omega | (simp; done) | (simp; omega)) _ | refine Below.drew ?_ | refine Below.setCell ?_ (by first | omega | (simp; done) | (simp; omega)) _)⟩
    · rcases (show ta - tb = -7 ∨ ta - tb = -6 ∨ ta - tb = -5 ∨ ta - tb = -4 ∨ ta - tb = -3 ∨ ta - tb = -2 ∨ ta - tb = -1 ∨ ta - tb = 0 ∨ ta - tb = 1 by omega) with hs | hs | hs | hs | hs | hs | hs | hs | hs
      · exact relativeError_m7 da ta db tb w ha hb hs
      · exact relativeError_m6 da ta db tb w ha hb hs
      · exact relativeError_m5 da ta db tb w ha hb hs
      · exact relativeError_m4 da ta db tb w ha hb hs
      · exact relativeError_m3 da ta db tb w ha hb hs
      · exact relativeError_m2 da ta db tb w ha hb hs
      · exact relativeError_m1 da ta db tb w ha hb hs
      · rcases Int.lt_trichotomy da db with hc | hc | hc
        · exact relativeError_0a da ta db tb w ha hb hs hc
        · subst hc; exact relativeError_0c da ta tb w ha hs
        · exact relativeError_0b da ta db tb w ha hb hs hc
      · exact relativeError_1 da ta db tb w ha hb hs
end Go.Proofs.Ythnjiiodpjielaa
