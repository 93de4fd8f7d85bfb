/- NeededLength (layer 6): rounding of figures, places that are apart. No condition. -/
import Derived.Test.YtdbhlichldcnfaaPt
import Derived.Deep.DeepCutAuto
namespace Go.Proofs.Ytdbhlichldcnfaa
open Go.RowKit
set_option linter.unusedVariables false
set_option linter.unusedSimpArgs false

/-- the digits of a figure rounded to some parts, 10000 let by -/
def cutN (d parts : Int) : Int := (2 * d + p10 (4 - parts).toNat) / (2 * p10 (4 - parts).toNat) * p10 (4 - parts).toNat
def cutD (d parts : Int) : Int := if cutN d parts = 10000 then 1000 else cutN d parts
def cutT (d t parts : Int) : Int := if cutN d parts = 10000 then t + 1 else t
theorem cutN_bd {d parts : Int} (h : Dig d) (p1 : 1 ≤ parts) (p2 : parts ≤ 4) : 1000 ≤ cutN d parts ∧ cutN d parts ≤ 10000 := by
  obtain ⟨h1, h2⟩ := h
  unfold cutN
  rcases (show parts = 1 ∨ parts = 2 ∨ parts = 3 ∨ parts = 4 by omega) with rfl | rfl | rfl | rfl
  · rw [show p10 ((4 : Int) - 1).toNat = 1000 by decide]; omega
  · rw [show p10 ((4 : Int) - 2).toNat = 100 by decide]; omega
  · rw [show p10 ((4 : Int) - 3).toNat = 10 by decide]; omega
  · rw [show p10 ((4 : Int) - 4).toNat = 1 by decide]; omega
theorem cutD_dig {d parts : Int} (h : Dig d) (p1 : 1 ≤ parts) (p2 : parts ≤ 4) (hn : cutN d parts ≠ 10000) : Dig (cutN d parts) := by
  have := cutN_bd h p1 p2
  exact ⟨this.1, by omega⟩
theorem unit_bd {parts : Int} (p1 : 1 ≤ parts) (p2 : parts ≤ 4) : 1 ≤ p10 (4 - parts).toNat ∧ p10 (4 - parts).toNat ≤ 1000 := by
  rcases (show parts = 1 ∨ parts = 2 ∨ parts = 3 ∨ parts = 4 by omega) with rfl | rfl | rfl | rfl <;> decide
theorem endPair {x y a b : Int} (h : (x, y) = (a, b)) : Ending.returned (.agg #[.int .i64 a, .int .i64 b]) = .returned (.agg #[.int .i64 x, .int .i64 y]) := by injection h with h1 h2; subst h1 h2; rfl
set_option maxHeartbeats 2000000 in
theorem roundFigure_1 (d t : Int) (w : World) (hd : Dig d) (t1 : -1000 ≤ t) (t2 : t ≤ 1000) :
    Calls Try.prog 76 #[.agg #[.int .i64 d, .int .i64 t], .int .i64 1] w fun e w' => e = .returned (.agg #[.int .i64 (cutD d 1), .int .i64 (cutT d t 1)]) ∧ Below w.heap.size w w' := by
  have T := fun W => ten_any 3 W (by omega) (by omega)
  rw [show p10 (((3 : Int)).toNat) = 1000 by decide] at T
  have hN := Lib.hid (show cutN d 1 = ((2 * d + 1000) / 2000 * 1000) by unfold cutN; rw [show p10 ((4 : Int) - 1).toNat = 1000 by decide]; omega)
  unfold Dig at hd
  have qb : 1000 ≤ ((2 * d + 1000) / 2000 * 1000) ∧ ((2 * d + 1000) / 2000 * 1000) ≤ 10000 := by omega
  by_cases h : ((2 * d + 1000) / 2000 * 1000) = 10000
  · have HV := Lib.hid (show (cutD d 1, cutT d t 1) = (1000, t + 1) by rw [cutD, cutT, hN.out, if_pos h, if_pos h])
    have h' : (((2 * d + 1000) / 2000 * 1000) == 10000) = true := by simpa using h
    clear h
    go_enter Try.func76, Try.ntmps76
    go_wp2_with (first
    | (go_at_call 77; refine (T _).mono ?_; rintro e w' ⟨rfl, rfl⟩)
    | (go_at_call 103; refine (down_any (2 * d + 1000) 2000 _ (by omega) (by omega) (by omega) (by omega)).mono ?_; rintro e w' ⟨rfl, rfl⟩))
    exact bodyPost_ret (v := .agg #[.int .i64 1000, .int .i64 (t + 1)]) (by simp [results, Try.results76, go_sem]) rfl ⟨endPair HV.out, by repeat' (first | exact Below.refl _ _ | assumption | refine Below.alloc ?_ (by first | omega | (simp; done) | (simp; omega)) _ | refine Below.drew ?_ | refine Below.setCell ?_ (by first | omega | (simp; done) | (simp; omega)) _)⟩
  · have HV := Lib.hid (show (cutD d 1, cutT d t 1) = (((2 * d + 1000) / 2000 * 1000), t) by rw [cutD, cutT, hN.out, if_neg h, if_neg h])
    have h' : (((2 * d + 1000) / 2000 * 1000) == 10000) = false := by simpa using h
    clear h
    go_enter Try.func76, Try.ntmps76
    go_wp2_with (first
    | (go_at_call 77; refine (T _).mono ?_; rintro e w' ⟨rfl, rfl⟩)
    | (go_at_call 103; refine (down_any (2 * d + 1000) 2000 _ (by omega) (by omega) (by omega) (by omega)).mono ?_; rintro e w' ⟨rfl, rfl⟩))
    exact bodyPost_ret (v := .agg #[.int .i64 ((2 * d + 1000) / 2000 * 1000), .int .i64 t]) (by simp [results, Try.results76, go_sem]) rfl ⟨endPair HV.out, by repeat' (first | exact Below.refl _ _ | assumption | refine Below.alloc ?_ (by first | omega | (simp; done) | (simp; omega)) _ | refine Below.drew ?_ | refine Below.setCell ?_ (by first | omega | (simp; done) | (simp; omega)) _)⟩
set_option maxHeartbeats 2000000 in
theorem roundFigure_2 (d t : Int) (w : World) (hd : Dig d) (t1 : -1000 ≤ t) (t2 : t ≤ 1000) :
    Calls Try.prog 76 #[.agg #[.int .i64 d, .int .i64 t], .int .i64 2] w fun e w' => e = .returned (.agg #[.int .i64 (cutD d 2), .int .i64 (cutT d t 2)]) ∧ Below w.heap.size w w' := by
  have T := fun W => ten_any 2 W (by omega) (by omega)
  rw [show p10 (((2 : Int)).toNat) = 100 by decide] at T
  have hN := Lib.hid (show cutN d 2 = ((2 * d + 100) / 200 * 100) by unfold cutN; rw [show p10 ((4 : Int) - 2).toNat = 100 by decide]; omega)
  unfold Dig at hd
  have qb : 1000 ≤ ((2 * d + 100) / 200 * 100) ∧ ((2 * d + 100) / 200 * 100) ≤ 10000 := by omega
  by_cases h : ((2 * d + 100) / 200 * 100) = 10000
  · have HV := Lib.hid (show (cutD d 2, cutT d t 2) = (1000, t + 1) by rw [cutD, cutT, hN.out, if_pos h, if_pos h])
    have h' : (((2 * d + 100) / 200 * 100) == 10000) = true := by simpa using h
    clear h
    go_enter Try.func76, Try.ntmps76
    go_wp2_with (first
    | (go_at_call 77; refine (T _).mono ?_; rintro e w' ⟨rfl, rfl⟩)
    | (go_at_call 103; refine (down_any (2 * d + 100) 200 _ (by omega) (by omega) (by omega) (by omega)).mono ?_; rintro e w' ⟨rfl, rfl⟩))
    exact bodyPost_ret (v := .agg #[.int .i64 1000, .int .i64 (t + 1)]) (by simp [results, Try.results76, go_sem]) rfl ⟨endPair HV.out, by repeat' (first | exact Below.refl _ _ | assumption | refine Below.alloc ?_ (by first | omega | (simp; done) | (simp; omega)) _ | refine Below.drew ?_ | refine Below.setCell ?_ (by first | omega | (simp; done) | (simp; omega)) _)⟩
  · have HV := Lib.hid (show (cutD d 2, cutT d t 2) = (((2 * d + 100) / 200 * 100), t) by rw [cutD, cutT, hN.out, if_neg h, if_neg h])
    have h' : (((2 * d + 100) / 200 * 100) == 10000) = false := by simpa using h
    clear h
    go_enter Try.func76, Try.ntmps76
    go_wp2_with (first
    | (go_at_call 77; refine (T _).mono ?_; rintro e w' ⟨rfl, rfl⟩)
    | (go_at_call 103; refine (down_any (2 * d + 100) 200 _ (by omega) (by omega) (by omega) (by omega)).mono ?_; rintro e w' ⟨rfl, rfl⟩))
    exact bodyPost_ret (v := .agg #[.int .i64 ((2 * d + 100) / 200 * 100), .int .i64 t]) (by simp [results, Try.results76, go_sem]) rfl ⟨endPair HV.out, by repeat' (first | exact Below.refl _ _ | assumption | refine Below.alloc ?_ (by first | omega | (simp; done) | (simp; omega)) _ | refine Below.drew ?_ | refine Below.setCell ?_ (by first | omega | (simp; done) | (simp; omega)) _)⟩
set_option maxHeartbeats 2000000 in
theorem roundFigure_3 (d t : Int) (w : World) (hd : Dig d) (t1 : -1000 ≤ t) (t2 : t ≤ 1000) :
    Calls Try.prog 76 #[.agg #[.int .i64 d, .int .i64 t], .int .i64 3] w fun e w' => e = .returned (.agg #[.int .i64 (cutD d 3), .int .i64 (cutT d t 3)]) ∧ Below w.heap.size w w' := by
  have T := fun W => ten_any 1 W (by omega) (by omega)
  rw [show p10 (((1 : Int)).toNat) = 10 by decide] at T
  have hN := Lib.hid (show cutN d 3 = ((2 * d + 10) / 20 * 10) by unfold cutN; rw [show p10 ((4 : Int) - 3).toNat = 10 by decide]; omega)
  unfold Dig at hd
  have qb : 1000 ≤ ((2 * d + 10) / 20 * 10) ∧ ((2 * d + 10) / 20 * 10) ≤ 10000 := by omega
  by_cases h : ((2 * d + 10) / 20 * 10) = 10000
  · have HV := Lib.hid (show (cutD d 3, cutT d t 3) = (1000, t + 1) by rw [cutD, cutT, hN.out, if_pos h, if_pos h])
    have h' : (((2 * d + 10) / 20 * 10) == 10000) = true := by simpa using h
    clear h
    go_enter Try.func76, Try.ntmps76
    go_wp2_with (first
    | (go_at_call 77; refine (T _).mono ?_; rintro e w' ⟨rfl, rfl⟩)
    | (go_at_call 103; refine (down_any (2 * d + 10) 20 _ (by omega) (by omega) (by omega) (by omega)).mono ?_; rintro e w' ⟨rfl, rfl⟩))
    exact bodyPost_ret (v := .agg #[.int .i64 1000, .int .i64 (t + 1)]) (by simp [results, Try.results76, go_sem]) rfl ⟨endPair HV.out, by repeat' (first | exact Below.refl _ _ | assumption | refine Below.alloc ?_ (by first | omega | (simp; done) | (simp; omega)) _ | refine Below.drew ?_ | refine Below.setCell ?_ (by first | omega | (simp; done) | (simp; omega)) _)⟩
  · have HV := Lib.hid (show (cutD d 3, cutT d t 3) = (((2 * d + 10) / 20 * 10), t) by rw [cutD, cutT, hN.out, if_neg h, if_neg h])
    have h' : (((2 * d + 10) / 20 * 10) == 10000) = false := by simpa using h
    clear h
    go_enter Try.func76, Try.ntmps76
    go_wp2_with (first
    | (go_at_call 77; refine (T _).mono ?_; rintro e w' ⟨rfl, rfl⟩)
    | (go_at_call 103; refine (down_any (2 * d + 10) 20 _ (by omega) (by omega) (by omega) (by omega)).mono ?_; rintro e w' ⟨rfl, rfl⟩))
    exact bodyPost_ret (v := .agg #[.int .i64 ((2 * d + 10) / 20 * 10), .int .i64 t]) (by simp [results, Try.results76, go_sem]) rfl ⟨endPair HV.out, by repeat' (first | exact Below.refl _ _ | assumption | refine Below.alloc ?_ (by first | omega | (simp; done) | (simp; omega)) _ | refine Below.drew ?_ | refine Below.setCell ?_ (by first | omega | (simp; done) | (simp; omega)) _)⟩
set_option maxHeartbeats 2000000 in
theorem roundFigure_4 (d t : Int) (w : World) (hd : Dig d) (t1 : -1000 ≤ t) (t2 : t ≤ 1000) :
    Calls Try.prog 76 #[.agg #[.int .i64 d, .int .i64 t], .int .i64 4] w fun e w' => e = .returned (.agg #[.int .i64 (cutD d 4), .int .i64 (cutT d t 4)]) ∧ Below w.heap.size w w' := by
  have T := fun W => ten_any 0 W (by omega) (by omega)
  rw [show p10 (((0 : Int)).toNat) = 1 by decide] at T
  have hN := Lib.hid (show cutN d 4 = ((2 * d + 1) / 2) by unfold cutN; rw [show p10 ((4 : Int) - 4).toNat = 1 by decide]; omega)
  unfold Dig at hd
  have qb : 1000 ≤ ((2 * d + 1) / 2) ∧ ((2 * d + 1) / 2) ≤ 10000 := by omega
  by_cases h : ((2 * d + 1) / 2) = 10000
  · have HV := Lib.hid (show (cutD d 4, cutT d t 4) = (1000, t + 1) by rw [cutD, cutT, hN.out, if_pos h, if_pos h])
    have h' : (((2 * d + 1) / 2) == 10000) = true := by simpa using h
    clear h
    go_enter Try.func76, Try.ntmps76
    go_wp2_with (first
    | (go_at_call 77; refine (T _).mono ?_; rintro e w' ⟨rfl, rfl⟩)
    | (go_at_call 103; refine (down_any (2 * d + 1) 2 _ (by omega) (by omega) (by omega) (by omega)).mono ?_; rintro e w' ⟨rfl, rfl⟩))
    exact bodyPost_ret (v := .agg #[.int .i64 1000, .int .i64 (t + 1)]) (by simp [results, Try.results76, go_sem]) rfl ⟨endPair HV.out, by repeat' (first | exact Below.refl _ _ | assumption | refine Below.alloc ?_ (by first | omega | (simp; done) | (simp; omega)) _ | refine Below.drew ?_ | refine Below.setCell ?_ (by first | omega | (simp; done) | (simp; omega)) _)⟩
  · have HV := Lib.hid (show (cutD d 4, cutT d t 4) = (((2 * d + 1) / 2), t) by rw [cutD, cutT, hN.out, if_neg h, if_neg h])
    have h' : (((2 * d + 1) / 2) == 10000) = false := by simpa using h
    clear h
    go_enter Try.func76, Try.ntmps76
    go_wp2_with (first
    | (go_at_call 77; refine (T _).mono ?_; rintro e w' ⟨rfl, rfl⟩)
    | (go_at_call 103; refine (down_any (2 * d + 1) 2 _ (by omega) (by omega) (by omega) (by omega)).mono ?_; rintro e w' ⟨rfl, rfl⟩))
    exact bodyPost_ret (v := .agg #[.int .i64 ((2 * d + 1) / 2), .int .i64 t]) (by simp [results, Try.results76, go_sem]) rfl ⟨endPair HV.out, by repeat' (first | exact Below.refl _ _ | assumption | refine Below.alloc ?_ (by first | omega | (simp; done) | (simp; omega)) _ | refine Below.drew ?_ | refine Below.setCell ?_ (by first | omega | (simp; done) | (simp; omega)) _)⟩
theorem roundFigure_any (d t parts : Int) (w : World) (hd : Dig d) (t1 : -1000 ≤ t) (t2 : t ≤ 1000) (p1 : 1 ≤ parts) (p2 : parts ≤ 4) :
    Calls Try.prog 76 #[.agg #[.int .i64 d, .int .i64 t], .int .i64 parts] w fun e w' => e = .returned (.agg #[.int .i64 (cutD d parts), .int .i64 (cutT d t parts)]) ∧ Below w.heap.size w w' := by
  rcases (show parts = 1 ∨ parts = 2 ∨ parts = 3 ∨ parts = 4 by omega) with rfl | rfl | rfl | rfl
  · exact roundFigure_1 d t w hd t1 t2
  · exact roundFigure_2 d t w hd t1 t2
  · exact roundFigure_3 d t w hd t1 t2
  · exact roundFigure_4 d t w hd t1 t2
set_option maxHeartbeats 2000000 in
theorem l02Cut_1 (d t : Int) (w : World) (hd : Dig d) (t1 : -1000 ≤ t) (t2 : t ≤ 1000) :
    Calls Try.prog 70 #[.agg #[.int .i64 d, .int .i64 t], .int .i64 1] w fun e w' => e = .returned (.agg #[.int .i64 (cutD d 1), .int .i64 (cutT d t 1)]) ∧ Below w.heap.size w w' := by
  have T := fun W => l01Ten_any 3 W (by omega) (by omega)
  rw [show p10 (((3 : Int)).toNat) = 1000 by decide] at T
  have hN := Lib.hid (show cutN d 1 = (1000 * ((2 * d + 1000) / 2000)) by unfold cutN; rw [show p10 ((4 : Int) - 1).toNat = 1000 by decide]; omega)
  unfold Dig at hd
  have qb : 1000 ≤ (1000 * ((2 * d + 1000) / 2000)) ∧ (1000 * ((2 * d + 1000) / 2000)) ≤ 10000 := by omega
  by_cases h : (1000 * ((2 * d + 1000) / 2000)) = 10000
  · have HV := Lib.hid (show (cutD d 1, cutT d t 1) = (1000, t + 1) by rw [cutD, cutT, hN.out, if_pos h, if_pos h])
    have h' : ((1000 * ((2 * d + 1000) / 2000)) == 10000) = true := by simpa using h
    clear h
    go_enter Try.func70, Try.ntmps70
    go_wp2_with (first
    | (go_at_call 71; refine (T _).mono ?_; rintro e w' ⟨rfl, rfl⟩)
    | (go_at_call 100; refine (l01Nearest_any d 1000 _ (by omega) (by omega) (by omega) (by omega)).mono ?_; rintro e w' ⟨rfl, rfl⟩))
    exact bodyPost_ret (v := .agg #[.int .i64 1000, .int .i64 (t + 1)]) (by simp [results, Try.results70, go_sem]) rfl ⟨endPair HV.out, by repeat' (first | exact Below.refl _ _ | assumption | refine Below.alloc ?_ (by first | omega | (simp; done) | (simp; omega)) _ | refine Below.drew ?_ | refine Below.setCell ?_ (by first | omega | (simp; done) | (simp; omega)) _)⟩
  · have HV := Lib.hid (show (cutD d 1, cutT d t 1) = ((1000 * ((2 * d + 1000) / 2000)), t) by rw [cutD, cutT, hN.out, if_neg h, if_neg h])
    have h' : ((1000 * ((2 * d + 1000) / 2000)) == 10000) = false := by simpa using h
    clear h
    go_enter Try.func70, Try.ntmps70
    go_wp2_with (first
    | (go_at_call 71; refine (T _).mono ?_; rintro e w' ⟨rfl, rfl⟩)
    | (go_at_call 100; refine (l01Nearest_any d 1000 _ (by omega) (by omega) (by omega) (by omega)).mono ?_; rintro e w' ⟨rfl, rfl⟩))
    exact bodyPost_ret (v := .agg #[.int .i64 (1000 * ((2 * d + 1000) / 2000)), .int .i64 t]) (by simp [results, Try.results70, go_sem]) rfl ⟨endPair HV.out, by repeat' (first | exact Below.refl _ _ | assumption | refine Below.alloc ?_ (by first | omega | (simp; done) | (simp; omega)) _ | refine Below.drew ?_ | refine Below.setCell ?_ (by first | omega | (simp; done) | (simp; omega)) _)⟩
set_option maxHeartbeats 2000000 in
theorem l02Cut_2 (d t : Int) (w : World) (hd : Dig d) (t1 : -1000 ≤ t) (t2 : t ≤ 1000) :
    Calls Try.prog 70 #[.agg #[.int .i64 d, .int .i64 t], .int .i64 2] w fun e w' => e = .returned (.agg #[.int .i64 (cutD d 2), .int .i64 (cutT d t 2)]) ∧ Below w.heap.size w w' := by
  have T := fun W => l01Ten_any 2 W (by omega) (by omega)
  rw [show p10 (((2 : Int)).toNat) = 100 by decide] at T
  have hN := Lib.hid (show cutN d 2 = (100 * ((2 * d + 100) / 200)) by unfold cutN; rw [show p10 ((4 : Int) - 2).toNat = 100 by decide]; omega)
  unfold Dig at hd
  have qb : 1000 ≤ (100 * ((2 * d + 100) / 200)) ∧ (100 * ((2 * d + 100) / 200)) ≤ 10000 := by omega
  by_cases h : (100 * ((2 * d + 100) / 200)) = 10000
  · have HV := Lib.hid (show (cutD d 2, cutT d t 2) = (1000, t + 1) by rw [cutD, cutT, hN.out, if_pos h, if_pos h])
    have h' : ((100 * ((2 * d + 100) / 200)) == 10000) = true := by simpa using h
    clear h
    go_enter Try.func70, Try.ntmps70
    go_wp2_with (first
    | (go_at_call 71; refine (T _).mono ?_; rintro e w' ⟨rfl, rfl⟩)
    | (go_at_call 100; refine (l01Nearest_any d 100 _ (by omega) (by omega) (by omega) (by omega)).mono ?_; rintro e w' ⟨rfl, rfl⟩))
    exact bodyPost_ret (v := .agg #[.int .i64 1000, .int .i64 (t + 1)]) (by simp [results, Try.results70, go_sem]) rfl ⟨endPair HV.out, by repeat' (first | exact Below.refl _ _ | assumption | refine Below.alloc ?_ (by first | omega | (simp; done) | (simp; omega)) _ | refine Below.drew ?_ | refine Below.setCell ?_ (by first | omega | (simp; done) | (simp; omega)) _)⟩
  · have HV := Lib.hid (show (cutD d 2, cutT d t 2) = ((100 * ((2 * d + 100) / 200)), t) by rw [cutD, cutT, hN.out, if_neg h, if_neg h])
    have h' : ((100 * ((2 * d + 100) / 200)) == 10000) = false := by simpa using h
    clear h
    go_enter Try.func70, Try.ntmps70
    go_wp2_with (first
    | (go_at_call 71; refine (T _).mono ?_; rintro e w' ⟨rfl, rfl⟩)
    | (go_at_call 100; refine (l01Nearest_any d 100 _ (by omega) (by omega) (by omega) (by omega)).mono ?_; rintro e w' ⟨rfl, rfl⟩))
    exact bodyPost_ret (v := .agg #[.int .i64 (100 * ((2 * d + 100) / 200)), .int .i64 t]) (by simp [results, Try.results70, go_sem]) rfl ⟨endPair HV.out, by repeat' (first | exact Below.refl _ _ | assumption | refine Below.alloc ?_ (by first | omega | (simp; done) | (simp; omega)) _ | refine Below.drew ?_ | refine Below.setCell ?_ (by first | omega | (simp; done) | (simp; omega)) _)⟩
set_option maxHeartbeats 2000000 in
theorem l02Cut_3 (d t : Int) (w : World) (hd : Dig d) (t1 : -1000 ≤ t) (t2 : t ≤ 1000) :
    Calls Try.prog 70 #[.agg #[.int .i64 d, .int .i64 t], .int .i64 3] w fun e w' => e = .returned (.agg #[.int .i64 (cutD d 3), .int .i64 (cutT d t 3)]) ∧ Below w.heap.size w w' := by
  have T := fun W => l01Ten_any 1 W (by omega) (by omega)
  rw [show p10 (((1 : Int)).toNat) = 10 by decide] at T
  have hN := Lib.hid (show cutN d 3 = (10 * ((2 * d + 10) / 20)) by unfold cutN; rw [show p10 ((4 : Int) - 3).toNat = 10 by decide]; omega)
  unfold Dig at hd
  have qb : 1000 ≤ (10 * ((2 * d + 10) / 20)) ∧ (10 * ((2 * d + 10) / 20)) ≤ 10000 := by omega
  by_cases h : (10 * ((2 * d + 10) / 20)) = 10000
  · have HV := Lib.hid (show (cutD d 3, cutT d t 3) = (1000, t + 1) by rw [cutD, cutT, hN.out, if_pos h, if_pos h])
    have h' : ((10 * ((2 * d + 10) / 20)) == 10000) = true := by simpa using h
    clear h
    go_enter Try.func70, Try.ntmps70
    go_wp2_with (first
    | (go_at_call 71; refine (T _).mono ?_; rintro e w' ⟨rfl, rfl⟩)
    | (go_at_call 100; refine (l01Nearest_any d 10 _ (by omega) (by omega) (by omega) (by omega)).mono ?_; rintro e w' ⟨rfl, rfl⟩))
    exact bodyPost_ret (v := .agg #[.int .i64 1000, .int .i64 (t + 1)]) (by simp [results, Try.results70, go_sem]) rfl ⟨endPair HV.out, by repeat' (first | exact Below.refl _ _ | assumption | refine Below.alloc ?_ (by first | omega | (simp; done) | (simp; omega)) _ | refine Below.drew ?_ | refine Below.setCell ?_ (by first | omega | (simp; done) | (simp; omega)) _)⟩
  · have HV := Lib.hid (show (cutD d 3, cutT d t 3) = ((10 * ((2 * d + 10) / 20)), t) by rw [cutD, cutT, hN.out, if_neg h, if_neg h])
    have h' : ((10 * ((2 * d + 10) / 20)) == 10000) = false := by simpa using h
    clear h
    go_enter Try.func70, Try.ntmps70
    go_wp2_with (first
    | (go_at_call 71; refine (T _).mono ?_; rintro e w' ⟨rfl, rfl⟩)
    | (go_at_call 100; refine (l01Nearest_any d 10 _ (by omega) (by omega) (by omega) (by omega)).mono ?_; rintro e w' ⟨rfl, rfl⟩))
    exact bodyPost_ret (v := .agg #[.int .i64 (10 * ((2 * d + 10) / 20)), .int .i64 t]) (by simp [results, Try.results70, go_sem]) rfl ⟨endPair HV.out, by repeat' (first | exact Below.refl _ _ | assumption | refine Below.alloc ?_ (by first | omega | (simp; done) | (simp; omega)) _ | refine Below.drew ?_ | refine Below.setCell ?_ (by first | omega | (simp; done) | (simp; omega)) _)⟩
set_option maxHeartbeats 2000000 in
theorem l02Cut_4 (d t : Int) (w : World) (hd : Dig d) (t1 : -1000 ≤ t) (t2 : t ≤ 1000) :
    Calls Try.prog 70 #[.agg #[.int .i64 d, .int .i64 t], .int .i64 4] w fun e w' => e = .returned (.agg #[.int .i64 (cutD d 4), .int .i64 (cutT d t 4)]) ∧ Below w.heap.size w w' := by
  have T := fun W => l01Ten_any 0 W (by omega) (by omega)
  rw [show p10 (((0 : Int)).toNat) = 1 by decide] at T
  have hN := Lib.hid (show cutN d 4 = ((2 * d + 1) / 2) by unfold cutN; rw [show p10 ((4 : Int) - 4).toNat = 1 by decide]; omega)
  unfold Dig at hd
  have qb : 1000 ≤ ((2 * d + 1) / 2) ∧ ((2 * d + 1) / 2) ≤ 10000 := by omega
  by_cases h : ((2 * d + 1) / 2) = 10000
  · have HV := Lib.hid (show (cutD d 4, cutT d t 4) = (1000, t + 1) by rw [cutD, cutT, hN.out, if_pos h, if_pos h])
    have h' : (((2 * d + 1) / 2) == 10000) = true := by simpa using h
    clear h
    go_enter Try.func70, Try.ntmps70
    go_wp2_with (first
    | (go_at_call 71; refine (T _).mono ?_; rintro e w' ⟨rfl, rfl⟩)
    | (go_at_call 100; refine (l01Nearest_any d 1 _ (by omega) (by omega) (by omega) (by omega)).mono ?_; rintro e w' ⟨rfl, rfl⟩))
    exact bodyPost_ret (v := .agg #[.int .i64 1000, .int .i64 (t + 1)]) (by simp [results, Try.results70, go_sem]) rfl ⟨endPair HV.out, by repeat' (first | exact Below.refl _ _ | assumption | refine Below.alloc ?_ (by first | omega | (simp; done) | (simp; omega)) _ | refine Below.drew ?_ | refine Below.setCell ?_ (by first | omega | (simp; done) | (simp; omega)) _)⟩
  · have HV := Lib.hid (show (cutD d 4, cutT d t 4) = (((2 * d + 1) / 2), t) by rw [cutD, cutT, hN.out, if_neg h, if_neg h])
    have h' : (((2 * d + 1) / 2) == 10000) = false := by simpa using h
    clear h
    go_enter Try.func70, Try.ntmps70
    go_wp2_with (first
    | (go_at_call 71; refine (T _).mono ?_; rintro e w' ⟨rfl, rfl⟩)
    | (go_at_call 100; refine (l01Nearest_any d 1 _ (by omega) (by omega) (by omega) (by omega)).mono ?_; rintro e w' ⟨rfl, rfl⟩))
    exact bodyPost_ret (v := .agg #[.int .i64 ((2 * d + 1) / 2), .int .i64 t]) (by simp [results, Try.results70, go_sem]) rfl ⟨endPair HV.out, by repeat' (first | exact Below.refl _ _ | assumption | refine Below.alloc ?_ (by first | omega | (simp; done) | (simp; omega)) _ | refine Below.drew ?_ | refine Below.setCell ?_ (by first | omega | (simp; done) | (simp; omega)) _)⟩
theorem l02Cut_any (d t parts : Int) (w : World) (hd : Dig d) (t1 : -1000 ≤ t) (t2 : t ≤ 1000) (p1 : 1 ≤ parts) (p2 : parts ≤ 4) :
    Calls Try.prog 70 #[.agg #[.int .i64 d, .int .i64 t], .int .i64 parts] w fun e w' => e = .returned (.agg #[.int .i64 (cutD d parts), .int .i64 (cutT d t parts)]) ∧ Below w.heap.size w w' := by
  rcases (show parts = 1 ∨ parts = 2 ∨ parts = 3 ∨ parts = 4 by omega) with rfl | rfl | rfl | rfl
  · exact l02Cut_1 d t w hd t1 t2
  · exact l02Cut_2 d t w hd t1 t2
  · exact l02Cut_3 d t w hd t1 t2
  · exact l02Cut_4 d t w hd t1 t2
def apartB (s d d2 t len eye : Int) : Bool := decide (plU s d2 t len + eye ≤ plL s d t len) || decide (plU s d t len + eye ≤ plL s d2 t len)
set_option maxRecDepth 100000 in
set_option maxHeartbeats 8000000 in
theorem l06Apart_any (s d d2 t len eye : Int) (w : World) (hd : Dig d) (hd2 : Dig d2) (t1 : -1000 ≤ t) (t2 : t ≤ 1000) (h1 : 1 ≤ len) (h2 : len ≤ 100000) (h5 : 0 ≤ eye) (h6 : eye ≤ 200) :
    Calls Try.prog 72 #[.int .i64 s, .agg #[.int .i64 d, .int .i64 t], .agg #[.int .i64 d2, .int .i64 t], .int .i64 len, .int .i64 eye] w fun e w' => e = .returned (.bool (apartB s d d2 t len eye)) ∧ Below w.heap.size w w' := by
  have L1 := fun W => l05Position_any s d t W hd (by omega) (by omega)
  have L2 := fun W => l05Position_any s d2 t W hd2 (by omega) (by omega)
  have B1 := p_bd (s := s) (t := t) hd
  have B2 := p_bd (s := s) (t := t) hd2
  have M1 := fun W => l05Place_any (pL s d t) (pU s d t) len W B1.1 B1.2.1 B1.2.2 h1 h2
  have M2 := fun W => l05Place_any (pL s d2 t) (pU s d2 t) len W B2.1 B2.2.1 B2.2.2 h1 h2
  have P1 := pl_bd (s := s) (t := t) hd h1 h2
  have P2 := pl_bd (s := s) (t := t) hd2 h1 h2
  rw [show pL s d t * len / 1048576 = plL s d t len from rfl, show ceilDiv (pU s d t * len) 1048576 = plU s d t len from rfl] at M1
  rw [show pL s d2 t * len / 1048576 = plL s d2 t len from rfl, show ceilDiv (pU s d2 t * len) 1048576 = plU s d2 t len from rfl] at M2
  have HV := Lib.hid (show apartB s d d2 t len eye = (decide (plU s d2 t len + eye ≤ plL s d t len) || decide (plU s d t len + eye ≤ plL s d2 t len)) from rfl)
  generalize plL s d t len = a1 at *
  generalize plU s d t len = b1 at *
  generalize plL s d2 t len = a2 at *
  generalize plU s d2 t len = b2 at *
  generalize pL s d t = x1 at *
  generalize pU s d t = y1 at *
  generalize pL s d2 t = x2 at *
  generalize pU s d2 t = y2 at *
  clear B1 B2
  unfold Dig at hd hd2
  go_enter Try.func72, Try.ntmps72
  go_upto_region 0 with fail
  go_cut [6, 7, 10] (fun s6 s7 s10 wx => s6 = .pointer (some ⟨w.heap.size, 0, none⟩) ∧ s7 = .pointer (some ⟨w.heap.size + 1, 0, none⟩) ∧ s10 = .bool false ∧ wx.cell? ⟨w.heap.size, 0, none⟩ = some (.int .i64 d) ∧ wx.cell? ⟨w.heap.size, 1, none⟩ = some (.int .i64 t) ∧ wx.cell? ⟨(w.heap.size + 1), 0, none⟩ = some (.int .i64 d2) ∧ wx.cell? ⟨(w.heap.size + 1), 1, none⟩ = some (.int .i64 t) ∧ (w.heap.size + 1) < wx.heap.size ∧ Below w.heap.size w wx)
  case first =>
    go_wp2_with fail
    go_meet
    refine ⟨rfl, rfl, rfl, ?_, ?_, ?_, ?_, ?_, by repeat' (first | (with_reducible exact Below.refl _ _) | (with_reducible assumption) | (with_reducible refine Below.alloc ?_ ?_ _) | (with_reducible refine Below.drew ?_) | (with_reducible refine Below.setCell ?_ ?_ _) | omega | (simp; done) | (simp; omega))⟩
    all_goals (first | omega | (simp [go_sem]; done) | (simp; omega))
  case rest =>
  obtain ⟨rfl, rfl, rfl, c0, c1, c2, c3, hl, B0⟩ := hcut
  obtain ⟨w0, rfl⟩ : ∃ w0 : World, w0 = wc := ⟨_, rfl⟩
  have lw0 := B0.size
  have KP := Lib.hid (show ∀ W : World, Below w0.heap.size w0 W → W.cell? ⟨w.heap.size, 0, none⟩ = some (.int .i64 d) ∧ W.cell? ⟨w.heap.size, 1, none⟩ = some (.int .i64 t) ∧ W.cell? ⟨(w.heap.size + 1), 0, none⟩ = some (.int .i64 d2) ∧ W.cell? ⟨(w.heap.size + 1), 1, none⟩ = some (.int .i64 t) from fun W hW => ⟨(hW.cell (by first | omega | (simp; done) | (simp; omega))).trans c0, (hW.cell (by first | omega | (simp; done) | (simp; omega))).trans c1, (hW.cell (by first | omega | (simp; done) | (simp; omega))).trans c2, (hW.cell (by first | omega | (simp; done) | (simp; omega))).trans c3⟩)
  go_upto_region 1 with fail
  go_cut [11, 12] (fun s11 s12 wx => ∃ g h : Nat, s11 = .pointer (some ⟨g, 0, none⟩) ∧ s12 = .pointer (some ⟨h, 0, none⟩) ∧ wx.cell? ⟨g, 0, none⟩ = some (.int .i64 a1) ∧ wx.cell? ⟨g, 1, none⟩ = some (.int .i64 b1) ∧ wx.cell? ⟨h, 0, none⟩ = some (.int .i64 a2) ∧ wx.cell? ⟨h, 1, none⟩ = some (.int .i64 b2) ∧ Below w0.heap.size w0 wx)
  case first =>
    go_region_held3 (fun w' => w'.cell? ⟨w.heap.size, 0, none⟩ = some (.int .i64 d) ∧ w'.cell? ⟨w.heap.size, 1, none⟩ = some (.int .i64 t) ∧ w'.cell? ⟨(w.heap.size + 1), 0, none⟩ = some (.int .i64 d2) ∧ w'.cell? ⟨(w.heap.size + 1), 1, none⟩ = some (.int .i64 t)) (first | (exact KP.out _ (by repeat' (first | (with_reducible exact Below.refl _ _) | (with_reducible assumption) | (with_reducible refine Below.alloc ?_ ?_ _) | (with_reducible refine Below.drew ?_) | (with_reducible refine Below.setCell ?_ ?_ _) | omega | (simp; done) | (simp; omega)))) | (go_keep; done)) (first
      | (go_at_call 102; (with_reducible refine (L1 _).mono ?_); rintro e w1 ⟨rfl, hb1⟩; have hB1 : Below w0.heap.size w0 w1 := Below.trans (by repeat' (first | exact Below.refl _ _ | assumption | refine Below.alloc ?_ (by first | omega | (simp; done) | (simp; omega)) _ | refine Below.drew ?_ | refine Below.setCell ?_ (by first | omega | (simp; done) | (simp; omega)) _)) (hb1.mono (by first | omega | (simp; done) | (simp; omega))); have hz1 := hB1.size; obtain ⟨q1_0, q1_1, q1_2, q1_3⟩ := KP.out w1 hB1; (try (refine (fun (hm1_0 : w0.heap.size < w1.heap.size) => ?_) ?_; rotate_left; refine Nat.lt_of_lt_of_le ?_ hb1.size; (focus (first | omega | (simp; done) | (simp; omega))); refine (fun (mq1_00 : w1.cell? ⟨w0.heap.size, 0, none⟩ = some (.int .i64 0)) => ?_) ?_; rotate_left; refine (hb1.cell ?_).trans ?_; (focus (first | omega | (simp; done) | (simp; omega))); (focus (simp [go_sem, *]; done)); refine (fun (mr1_00 : w1.frozen? ⟨w0.heap.size, 0, none⟩ = false) => ?_) ?_; rotate_left; refine (hb1.frozen ?_).trans ?_; (focus (first | omega | (simp; done) | (simp; omega))); (focus (simp [go_sem, *]; done)); refine (fun (mq1_01 : w1.cell? ⟨w0.heap.size, 1, none⟩ = some (.int .i64 0)) => ?_) ?_; rotate_left; refine (hb1.cell ?_).trans ?_; (focus (first | omega | (simp; done) | (simp; omega))); (focus (simp [go_sem, *]; done)); refine (fun (mr1_01 : w1.frozen? ⟨w0.heap.size, 1, none⟩ = false) => ?_) ?_; rotate_left; refine (hb1.frozen ?_).trans ?_; (focus (first | omega | (simp; done) | (simp; omega))); (focus (simp [go_sem, *]; done)))); (try (refine (fun (hm1_1 : (w0.heap.size + 1) < w1.heap.size) => ?_) ?_; rotate_left; refine Nat.lt_of_lt_of_le ?_ hb1.size; (focus (first | omega | (simp; done) | (simp; omega))); refine (fun (mq1_10 : w1.cell? ⟨(w0.heap.size + 1), 0, none⟩ = some (.int .i64 0)) => ?_) ?_; rotate_left; refine (hb1.cell ?_).trans ?_; (focus (first | omega | (simp; done) | (simp; omega))); (focus (simp [go_sem, *]; done)); refine (fun (mr1_10 : w1.frozen? ⟨(w0.heap.size + 1), 0, none⟩ = false) => ?_) ?_; rotate_left; refine (hb1.frozen ?_).trans ?_; (focus (first | omega | (simp; done) | (simp; omega))); (focus (simp [go_sem, *]; done)); refine (fun (mq1_11 : w1.cell? ⟨(w0.heap.size + 1), 1, none⟩ = some (.int .i64 0)) => ?_) ?_; rotate_left; refine (hb1.cell ?_).trans ?_; (focus (first | omega | (simp; done) | (simp; omega))); (focus (simp [go_sem, *]; done)); refine (fun (mr1_11 : w1.frozen? ⟨(w0.heap.size + 1), 1, none⟩ = false) => ?_) ?_; rotate_left; refine (hb1.frozen ?_).trans ?_; (focus (first | omega | (simp; done) | (simp; omega))); (focus (simp [go_sem, *]; done)))); (try (refine (fun (nx1_0 : w0.heap.size ≠ w1.heap.size) => ?_) ?_; rotate_left; omega; refine (fun (ny1_0 : w1.heap.size ≠ w0.heap.size) => ?_) ?_; rotate_left; omega)); (try (refine (fun (nx1_1 : w0.heap.size ≠ w1.heap.size + 1) => ?_) ?_; rotate_left; omega; refine (fun (ny1_1 : w1.heap.size + 1 ≠ w0.heap.size) => ?_) ?_; rotate_left; omega)); (try (refine (fun (nx1_2 : (w0.heap.size + 1) ≠ w1.heap.size) => ?_) ?_; rotate_left; omega; refine (fun (ny1_2 : w1.heap.size ≠ (w0.heap.size + 1)) => ?_) ?_; rotate_left; omega)); (try (refine (fun (nx1_3 : (w0.heap.size + 1) ≠ w1.heap.size + 1) => ?_) ?_; rotate_left; omega; refine (fun (ny1_3 : w1.heap.size + 1 ≠ (w0.heap.size + 1)) => ?_) ?_; rotate_left; omega)); clear hb1)
      | (go_at_call 101; (with_reducible refine (M1 _).mono ?_); rintro e w2 ⟨rfl, hb2⟩; have hB2 : Below w0.heap.size w0 w2 := Below.trans (by repeat' (first | exact Below.refl _ _ | assumption | refine Below.alloc ?_ (by first | omega | (simp; done) | (simp; omega)) _ | refine Below.drew ?_ | refine Below.setCell ?_ (by first | omega | (simp; done) | (simp; omega)) _)) (hb2.mono (by first | omega | (simp; done) | (simp; omega))); have hz2 := hB2.size; obtain ⟨q2_0, q2_1, q2_2, q2_3⟩ := KP.out w2 hB2; (try (refine (fun (hm2_0 : w0.heap.size < w2.heap.size) => ?_) ?_; rotate_left; refine Nat.lt_of_lt_of_le ?_ hb2.size; (focus (first | omega | (simp; done) | (simp; omega))); refine (fun (mq2_00 : w2.cell? ⟨w0.heap.size, 0, none⟩ = some (.int .i64 0)) => ?_) ?_; rotate_left; refine (hb2.cell ?_).trans ?_; (focus (first | omega | (simp; done) | (simp; omega))); (focus (simp [go_sem, *]; done)); refine (fun (mr2_00 : w2.frozen? ⟨w0.heap.size, 0, none⟩ = false) => ?_) ?_; rotate_left; refine (hb2.frozen ?_).trans ?_; (focus (first | omega | (simp; done) | (simp; omega))); (focus (simp [go_sem, *]; done)); refine (fun (mq2_01 : w2.cell? ⟨w0.heap.size, 1, none⟩ = some (.int .i64 0)) => ?_) ?_; rotate_left; refine (hb2.cell ?_).trans ?_; (focus (first | omega | (simp; done) | (simp; omega))); (focus (simp [go_sem, *]; done)); refine (fun (mr2_01 : w2.frozen? ⟨w0.heap.size, 1, none⟩ = false) => ?_) ?_; rotate_left; refine (hb2.frozen ?_).trans ?_; (focus (first | omega | (simp; done) | (simp; omega))); (focus (simp [go_sem, *]; done)))); (try (refine (fun (hm2_1 : (w0.heap.size + 1) < w2.heap.size) => ?_) ?_; rotate_left; refine Nat.lt_of_lt_of_le ?_ hb2.size; (focus (first | omega | (simp; done) | (simp; omega))); refine (fun (mq2_10 : w2.cell? ⟨(w0.heap.size + 1), 0, none⟩ = some (.int .i64 0)) => ?_) ?_; rotate_left; refine (hb2.cell ?_).trans ?_; (focus (first | omega | (simp; done) | (simp; omega))); (focus (simp [go_sem, *]; done)); refine (fun (mr2_10 : w2.frozen? ⟨(w0.heap.size + 1), 0, none⟩ = false) => ?_) ?_; rotate_left; refine (hb2.frozen ?_).trans ?_; (focus (first | omega | (simp; done) | (simp; omega))); (focus (simp [go_sem, *]; done)); refine (fun (mq2_11 : w2.cell? ⟨(w0.heap.size + 1), 1, none⟩ = some (.int .i64 0)) => ?_) ?_; rotate_left; refine (hb2.cell ?_).trans ?_; (focus (first | omega | (simp; done) | (simp; omega))); (focus (simp [go_sem, *]; done)); refine (fun (mr2_11 : w2.frozen? ⟨(w0.heap.size + 1), 1, none⟩ = false) => ?_) ?_; rotate_left; refine (hb2.frozen ?_).trans ?_; (focus (first | omega | (simp; done) | (simp; omega))); (focus (simp [go_sem, *]; done)))); (try (refine (fun (hm2_2 : w1.heap.size < w2.heap.size) => ?_) ?_; rotate_left; refine Nat.lt_of_lt_of_le ?_ hb2.size; (focus (first | omega | (simp; done) | (simp; omega))); refine (fun (mq2_20 : w2.cell? ⟨w1.heap.size, 0, none⟩ = some (.int .i64 0)) => ?_) ?_; rotate_left; refine (hb2.cell ?_).trans ?_; (focus (first | omega | (simp; done) | (simp; omega))); (focus (simp [go_sem, *]; done)); refine (fun (mr2_20 : w2.frozen? ⟨w1.heap.size, 0, none⟩ = false) => ?_) ?_; rotate_left; refine (hb2.frozen ?_).trans ?_; (focus (first | omega | (simp; done) | (simp; omega))); (focus (simp [go_sem, *]; done)); refine (fun (mq2_21 : w2.cell? ⟨w1.heap.size, 1, none⟩ = some (.int .i64 0)) => ?_) ?_; rotate_left; refine (hb2.cell ?_).trans ?_; (focus (first | omega | (simp; done) | (simp; omega))); (focus (simp [go_sem, *]; done)); refine (fun (mr2_21 : w2.frozen? ⟨w1.heap.size, 1, none⟩ = false) => ?_) ?_; rotate_left; refine (hb2.frozen ?_).trans ?_; (focus (first | omega | (simp; done) | (simp; omega))); (focus (simp [go_sem, *]; done)))); (try (refine (fun (hm2_3 : (w1.heap.size + 1) < w2.heap.size) => ?_) ?_; rotate_left; refine Nat.lt_of_lt_of_le ?_ hb2.size; (focus (first | omega | (simp; done) | (simp; omega))); refine (fun (mq2_30 : w2.cell? ⟨(w1.heap.size + 1), 0, none⟩ = some (.int .i64 0)) => ?_) ?_; rotate_left; refine (hb2.cell ?_).trans ?_; (focus (first | omega | (simp; done) | (simp; omega))); (focus (simp [go_sem, *]; done)); refine (fun (mr2_30 : w2.frozen? ⟨(w1.heap.size + 1), 0, none⟩ = false) => ?_) ?_; rotate_left; refine (hb2.frozen ?_).trans ?_; (focus (first | omega | (simp; done) | (simp; omega))); (focus (simp [go_sem, *]; done)); refine (fun (mq2_31 : w2.cell? ⟨(w1.heap.size + 1), 1, none⟩ = some (.int .i64 0)) => ?_) ?_; rotate_left; refine (hb2.cell ?_).trans ?_; (focus (first | omega | (simp; done) | (simp; omega))); (focus (simp [go_sem, *]; done)); refine (fun (mr2_31 : w2.frozen? ⟨(w1.heap.size + 1), 1, none⟩ = false) => ?_) ?_; rotate_left; refine (hb2.frozen ?_).trans ?_; (focus (first | omega | (simp; done) | (simp; omega))); (focus (simp [go_sem, *]; done)))); (try (refine (fun (nx2_0 : w0.heap.size ≠ w2.heap.size) => ?_) ?_; rotate_left; omega; refine (fun (ny2_0 : w2.heap.size ≠ w0.heap.size) => ?_) ?_; rotate_left; omega)); (try (refine (fun (nx2_1 : w0.heap.size ≠ w2.heap.size + 1) => ?_) ?_; rotate_left; omega; refine (fun (ny2_1 : w2.heap.size + 1 ≠ w0.heap.size) => ?_) ?_; rotate_left; omega)); (try (refine (fun (nx2_2 : (w0.heap.size + 1) ≠ w2.heap.size) => ?_) ?_; rotate_left; omega; refine (fun (ny2_2 : w2.heap.size ≠ (w0.heap.size + 1)) => ?_) ?_; rotate_left; omega)); (try (refine (fun (nx2_3 : (w0.heap.size + 1) ≠ w2.heap.size + 1) => ?_) ?_; rotate_left; omega; refine (fun (ny2_3 : w2.heap.size + 1 ≠ (w0.heap.size + 1)) => ?_) ?_; rotate_left; omega)); (try (refine (fun (nx2_4 : w1.heap.size ≠ w2.heap.size) => ?_) ?_; rotate_left; omega; refine (fun (ny2_4 : w2.heap.size ≠ w1.heap.size) => ?_) ?_; rotate_left; omega)); (try (refine (fun (nx2_5 : w1.heap.size ≠ w2.heap.size + 1) => ?_) ?_; rotate_left; omega; refine (fun (ny2_5 : w2.heap.size + 1 ≠ w1.heap.size) => ?_) ?_; rotate_left; omega)); (try (refine (fun (nx2_6 : (w1.heap.size + 1) ≠ w2.heap.size) => ?_) ?_; rotate_left; omega; refine (fun (ny2_6 : w2.heap.size ≠ (w1.heap.size + 1)) => ?_) ?_; rotate_left; omega)); (try (refine (fun (nx2_7 : (w1.heap.size + 1) ≠ w2.heap.size + 1) => ?_) ?_; rotate_left; omega; refine (fun (ny2_7 : w2.heap.size + 1 ≠ (w1.heap.size + 1)) => ?_) ?_; rotate_left; omega)); clear hb2)
      | (go_at_call 102; (with_reducible refine (L2 _).mono ?_); rintro e w3 ⟨rfl, hb3⟩; have hB3 : Below w0.heap.size w0 w3 := Below.trans (by repeat' (first | exact Below.refl _ _ | assumption | refine Below.alloc ?_ (by first | omega | (simp; done) | (simp; omega)) _ | refine Below.drew ?_ | refine Below.setCell ?_ (by first | omega | (simp; done) | (simp; omega)) _)) (hb3.mono (by first | omega | (simp; done) | (simp; omega))); have hz3 := hB3.size; obtain ⟨q3_0, q3_1, q3_2, q3_3⟩ := KP.out w3 hB3; (try (refine (fun (hm3_0 : w0.heap.size < w3.heap.size) => ?_) ?_; rotate_left; refine Nat.lt_of_lt_of_le ?_ hb3.size; (focus (first | omega | (simp; done) | (simp; omega))); refine (fun (mq3_00 : w3.cell? ⟨w0.heap.size, 0, none⟩ = some (.int .i64 0)) => ?_) ?_; rotate_left; refine (hb3.cell ?_).trans ?_; (focus (first | omega | (simp; done) | (simp; omega))); (focus (simp [go_sem, *]; done)); refine (fun (mr3_00 : w3.frozen? ⟨w0.heap.size, 0, none⟩ = false) => ?_) ?_; rotate_left; refine (hb3.frozen ?_).trans ?_; (focus (first | omega | (simp; done) | (simp; omega))); (focus (simp [go_sem, *]; done)); refine (fun (mq3_01 : w3.cell? ⟨w0.heap.size, 1, none⟩ = some (.int .i64 0)) => ?_) ?_; rotate_left; refine (hb3.cell ?_).trans ?_; (focus (first | omega | (simp; done) | (simp; omega))); (focus (simp [go_sem, *]; done)); refine (fun (mr3_01 : w3.frozen? ⟨w0.heap.size, 1, none⟩ = false) => ?_) ?_; rotate_left; refine (hb3.frozen ?_).trans ?_; (focus (first | omega | (simp; done) | (simp; omega))); (focus (simp [go_sem, *]; done)))); (try (refine (fun (hm3_1 : (w0.heap.size + 1) < w3.heap.size) => ?_) ?_; rotate_left; refine Nat.lt_of_lt_of_le ?_ hb3.size; (focus (first | omega | (simp; done) | (simp; omega))); refine (fun (mq3_10 : w3.cell? ⟨(w0.heap.size + 1), 0, none⟩ = some (.int .i64 0)) => ?_) ?_; rotate_left; refine (hb3.cell ?_).trans ?_; (focus (first | omega | (simp; done) | (simp; omega))); (focus (simp [go_sem, *]; done)); refine (fun (mr3_10 : w3.frozen? ⟨(w0.heap.size + 1), 0, none⟩ = false) => ?_) ?_; rotate_left; refine (hb3.frozen ?_).trans ?_; (focus (first | omega | (simp; done) | (simp; omega))); (focus (simp [go_sem, *]; done)); refine (fun (mq3_11 : w3.cell? ⟨(w0.heap.size + 1), 1, none⟩ = some (.int .i64 0)) => ?_) ?_; rotate_left; refine (hb3.cell ?_).trans ?_; (focus (first | omega | (simp; done) | (simp; omega))); (focus (simp [go_sem, *]; done)); refine (fun (mr3_11 : w3.frozen? ⟨(w0.heap.size + 1), 1, none⟩ = false) => ?_) ?_; rotate_left; refine (hb3.frozen ?_).trans ?_; (focus (first | omega | (simp; done) | (simp; omega))); (focus (simp [go_sem, *]; done)))); (try (refine (fun (hm3_2 : w1.heap.size < w3.heap.size) => ?_) ?_; rotate_left; refine Nat.lt_of_lt_of_le ?_ hb3.size; (focus (first | omega | (simp; done) | (simp; omega))); refine (fun (mq3_20 : w3.cell? ⟨w1.heap.size, 0, none⟩ = some (.int .i64 0)) => ?_) ?_; rotate_left; refine (hb3.cell ?_).trans ?_; (focus (first | omega | (simp; done) | (simp; omega))); (focus (simp [go_sem, *]; done)); refine (fun (mr3_20 : w3.frozen? ⟨w1.heap.size, 0, none⟩ = false) => ?_) ?_; rotate_left; refine (hb3.frozen ?_).trans ?_; (focus (first | omega | (simp; done) | (simp; omega))); (focus (simp [go_sem, *]; done)); refine (fun (mq3_21 : w3.cell? ⟨w1.heap.size, 1, none⟩ = some (.int .i64 0)) => ?_) ?_; rotate_left; refine (hb3.cell ?_).trans ?_; (focus (first | omega | (simp; done) | (simp; omega))); (focus (simp [go_sem, *]; done)); refine (fun (mr3_21 : w3.frozen? ⟨w1.heap.size, 1, none⟩ = false) => ?_) ?_; rotate_left; refine (hb3.frozen ?_).trans ?_; (focus (first | omega | (simp; done) | (simp; omega))); (focus (simp [go_sem, *]; done)))); (try (refine (fun (hm3_3 : (w1.heap.size + 1) < w3.heap.size) => ?_) ?_; rotate_left; refine Nat.lt_of_lt_of_le ?_ hb3.size; (focus (first | omega | (simp; done) | (simp; omega))); refine (fun (mq3_30 : w3.cell? ⟨(w1.heap.size + 1), 0, none⟩ = some (.int .i64 0)) => ?_) ?_; rotate_left; refine (hb3.cell ?_).trans ?_; (focus (first | omega | (simp; done) | (simp; omega))); (focus (simp [go_sem, *]; done)); refine (fun (mr3_30 : w3.frozen? ⟨(w1.heap.size + 1), 0, none⟩ = false) => ?_) ?_; rotate_left; refine (hb3.frozen ?_).trans ?_; (focus (first | omega | (simp; done) | (simp; omega))); (focus (simp [go_sem, *]; done)); refine (fun (mq3_31 : w3.cell? ⟨(w1.heap.size + 1), 1, none⟩ = some (.int .i64 0)) => ?_) ?_; rotate_left; refine (hb3.cell ?_).trans ?_; (focus (first | omega | (simp; done) | (simp; omega))); (focus (simp [go_sem, *]; done)); refine (fun (mr3_31 : w3.frozen? ⟨(w1.heap.size + 1), 1, none⟩ = false) => ?_) ?_; rotate_left; refine (hb3.frozen ?_).trans ?_; (focus (first | omega | (simp; done) | (simp; omega))); (focus (simp [go_sem, *]; done)))); (try (refine (fun (hm3_4 : w2.heap.size < w3.heap.size) => ?_) ?_; rotate_left; refine Nat.lt_of_lt_of_le ?_ hb3.size; (focus (first | omega | (simp; done) | (simp; omega))); refine (fun (mq3_40 : w3.cell? ⟨w2.heap.size, 0, none⟩ = some (.int .i64 0)) => ?_) ?_; rotate_left; refine (hb3.cell ?_).trans ?_; (focus (first | omega | (simp; done) | (simp; omega))); (focus (simp [go_sem, *]; done)); refine (fun (mr3_40 : w3.frozen? ⟨w2.heap.size, 0, none⟩ = false) => ?_) ?_; rotate_left; refine (hb3.frozen ?_).trans ?_; (focus (first | omega | (simp; done) | (simp; omega))); (focus (simp [go_sem, *]; done)); refine (fun (mq3_41 : w3.cell? ⟨w2.heap.size, 1, none⟩ = some (.int .i64 0)) => ?_) ?_; rotate_left; refine (hb3.cell ?_).trans ?_; (focus (first | omega | (simp; done) | (simp; omega))); (focus (simp [go_sem, *]; done)); refine (fun (mr3_41 : w3.frozen? ⟨w2.heap.size, 1, none⟩ = false) => ?_) ?_; rotate_left; refine (hb3.frozen ?_).trans ?_; (focus (first | omega | (simp; done) | (simp; omega))); (focus (simp [go_sem, *]; done)))); (try (refine (fun (hm3_5 : (w2.heap.size + 1) < w3.heap.size) => ?_) ?_; rotate_left; refine Nat.lt_of_lt_of_le ?_ hb3.size; (focus (first | omega | (simp; done) | (simp; omega))); refine (fun (mq3_50 : w3.cell? ⟨(w2.heap.size + 1), 0, none⟩ = some (.int .i64 0)) => ?_) ?_; rotate_left; refine (hb3.cell ?_).trans ?_; (focus (first | omega | (simp; done) | (simp; omega))); (focus (simp [go_sem, *]; done)); refine (fun (mr3_50 : w3.frozen? ⟨(w2.heap.size + 1), 0, none⟩ = false) => ?_) ?_; rotate_left; refine (hb3.frozen ?_).trans ?_; (focus (first | omega | (simp; done) | (simp; omega))); (focus (simp [go_sem, *]; done)); refine (fun (mq3_51 : w3.cell? ⟨(w2.heap.size + 1), 1, none⟩ = some (.int .i64 0)) => ?_) ?_; rotate_left; refine (hb3.cell ?_).trans ?_; (focus (first | omega | (simp; done) | (simp; omega))); (focus (simp [go_sem, *]; done)); refine (fun (mr3_51 : w3.frozen? ⟨(w2.heap.size + 1), 1, none⟩ = false) => ?_) ?_; rotate_left; refine (hb3.frozen ?_).trans ?_; (focus (first | omega | (simp; done) | (simp; omega))); (focus (simp [go_sem, *]; done)))); (try (refine (fun (nx3_0 : w0.heap.size ≠ w3.heap.size) => ?_) ?_; rotate_left; omega; refine (fun (ny3_0 : w3.heap.size ≠ w0.heap.size) => ?_) ?_; rotate_left; omega)); (try (refine (fun (nx3_1 : w0.heap.size ≠ w3.heap.size + 1) => ?_) ?_; rotate_left; omega; refine (fun (ny3_1 : w3.heap.size + 1 ≠ w0.heap.size) => ?_) ?_; rotate_left; omega)); (try (refine (fun (nx3_2 : (w0.heap.size + 1) ≠ w3.heap.size) => ?_) ?_; rotate_left; omega; refine (fun (ny3_2 : w3.heap.size ≠ (w0.heap.size + 1)) => ?_) ?_; rotate_left; omega)); (try (refine (fun (nx3_3 : (w0.heap.size + 1) ≠ w3.heap.size + 1) => ?_) ?_; rotate_left; omega; refine (fun (ny3_3 : w3.heap.size + 1 ≠ (w0.heap.size + 1)) => ?_) ?_; rotate_left; omega)); (try (refine (fun (nx3_4 : w1.heap.size ≠ w3.heap.size) => ?_) ?_; rotate_left; omega; refine (fun (ny3_4 : w3.heap.size ≠ w1.heap.size) => ?_) ?_; rotate_left; omega)); (try (refine (fun (nx3_5 : w1.heap.size ≠ w3.heap.size + 1) => ?_) ?_; rotate_left; omega; refine (fun (ny3_5 : w3.heap.size + 1 ≠ w1.heap.size) => ?_) ?_; rotate_left; omega)); (try (refine (fun (nx3_6 : (w1.heap.size + 1) ≠ w3.heap.size) => ?_) ?_; rotate_left; omega; refine (fun (ny3_6 : w3.heap.size ≠ (w1.heap.size + 1)) => ?_) ?_; rotate_left; omega)); (try (refine (fun (nx3_7 : (w1.heap.size + 1) ≠ w3.heap.size + 1) => ?_) ?_; rotate_left; omega; refine (fun (ny3_7 : w3.heap.size + 1 ≠ (w1.heap.size + 1)) => ?_) ?_; rotate_left; omega)); (try (refine (fun (nx3_8 : w2.heap.size ≠ w3.heap.size) => ?_) ?_; rotate_left; omega; refine (fun (ny3_8 : w3.heap.size ≠ w2.heap.size) => ?_) ?_; rotate_left; omega)); (try (refine (fun (nx3_9 : w2.heap.size ≠ w3.heap.size + 1) => ?_) ?_; rotate_left; omega; refine (fun (ny3_9 : w3.heap.size + 1 ≠ w2.heap.size) => ?_) ?_; rotate_left; omega)); (try (refine (fun (nx3_10 : (w2.heap.size + 1) ≠ w3.heap.size) => ?_) ?_; rotate_left; omega; refine (fun (ny3_10 : w3.heap.size ≠ (w2.heap.size + 1)) => ?_) ?_; rotate_left; omega)); (try (refine (fun (nx3_11 : (w2.heap.size + 1) ≠ w3.heap.size + 1) => ?_) ?_; rotate_left; omega; refine (fun (ny3_11 : w3.heap.size + 1 ≠ (w2.heap.size + 1)) => ?_) ?_; rotate_left; omega)); clear hb3)
      | (go_at_call 101; (with_reducible refine (M2 _).mono ?_); rintro e w4 ⟨rfl, hb4⟩; have hB4 : Below w0.heap.size w0 w4 := Below.trans (by repeat' (first | exact Below.refl _ _ | assumption | refine Below.alloc ?_ (by first | omega | (simp; done) | (simp; omega)) _ | refine Below.drew ?_ | refine Below.setCell ?_ (by first | omega | (simp; done) | (simp; omega)) _)) (hb4.mono (by first | omega | (simp; done) | (simp; omega))); have hz4 := hB4.size; obtain ⟨q4_0, q4_1, q4_2, q4_3⟩ := KP.out w4 hB4; (try (refine (fun (hm4_0 : w0.heap.size < w4.heap.size) => ?_) ?_; rotate_left; refine Nat.lt_of_lt_of_le ?_ hb4.size; (focus (first | omega | (simp; done) | (simp; omega))); refine (fun (mq4_00 : w4.cell? ⟨w0.heap.size, 0, none⟩ = some (.int .i64 0)) => ?_) ?_; rotate_left; refine (hb4.cell ?_).trans ?_; (focus (first | omega | (simp; done) | (simp; omega))); (focus (simp [go_sem, *]; done)); refine (fun (mr4_00 : w4.frozen? ⟨w0.heap.size, 0, none⟩ = false) => ?_) ?_; rotate_left; refine (hb4.frozen ?_).trans ?_; (focus (first | omega | (simp; done) | (simp; omega))); (focus (simp [go_sem, *]; done)); refine (fun (mq4_01 : w4.cell? ⟨w0.heap.size, 1, none⟩ = some (.int .i64 0)) => ?_) ?_; rotate_left; refine (hb4.cell ?_).trans ?_; (focus (first | omega | (simp; done) | (simp; omega))); (focus (simp [go_sem, *]; done)); refine (fun (mr4_01 : w4.frozen? ⟨w0.heap.size, 1, none⟩ = false) => ?_) ?_; rotate_left; refine (hb4.frozen ?_).trans ?_; (focus (first | omega | (simp; done) | (simp; omega))); (focus (simp [go_sem, *]; done)))); (try (refine (fun (hm4_1 : (w0.heap.size + 1) < w4.heap.size) => ?_) ?_; rotate_left; refine Nat.lt_of_lt_of_le ?_ hb4.size; (focus (first | omega | (simp; done) | (simp; omega))); refine (fun (mq4_10 : w4.cell? ⟨(w0.heap.size + 1), 0, none⟩ = some (.int .i64 0)) => ?_) ?_; rotate_left; refine (hb4.cell ?_).trans ?_; (focus (first | omega | (simp; done) | (simp; omega))); (focus (simp [go_sem, *]; done)); refine (fun (mr4_10 : w4.frozen? ⟨(w0.heap.size + 1), 0, none⟩ = false) => ?_) ?_; rotate_left; refine (hb4.frozen ?_).trans ?_; (focus (first | omega | (simp; done) | (simp; omega))); (focus (simp [go_sem, *]; done)); refine (fun (mq4_11 : w4.cell? ⟨(w0.heap.size + 1), 1, none⟩ = some (.int .i64 0)) => ?_) ?_; rotate_left; refine (hb4.cell ?_).trans ?_; (focus (first | omega | (simp; done) | (simp; omega))); (focus (simp [go_sem, *]; done)); refine (fun (mr4_11 : w4.frozen? ⟨(w0.heap.size + 1), 1, none⟩ = false) => ?_) ?_; rotate_left; refine (hb4.frozen ?_).trans ?_; (focus (first | omega | (simp; done) | (simp; omega))); (focus (simp [go_sem, *]; done)))); (try (refine (fun (hm4_2 : w1.heap.size < w4.heap.size) => ?_) ?_; rotate_left; refine Nat.lt_of_lt_of_le ?_ hb4.size; (focus (first | omega | (simp; done) | (simp; omega))); refine (fun (mq4_20 : w4.cell? ⟨w1.heap.size, 0, none⟩ = some (.int .i64 0)) => ?_) ?_; rotate_left; refine (hb4.cell ?_).trans ?_; (focus (first | omega | (simp; done) | (simp; omega))); (focus (simp [go_sem, *]; done)); refine (fun (mr4_20 : w4.frozen? ⟨w1.heap.size, 0, none⟩ = false) => ?_) ?_; rotate_left; refine (hb4.frozen ?_).trans ?_; (focus (first | omega | (simp; done) | (simp; omega))); (focus (simp [go_sem, *]; done)); refine (fun (mq4_21 : w4.cell? ⟨w1.heap.size, 1, none⟩ = some (.int .i64 0)) => ?_) ?_; rotate_left; refine (hb4.cell ?_).trans ?_; (focus (first | omega | (simp; done) | (simp; omega))); (focus (simp [go_sem, *]; done)); refine (fun (mr4_21 : w4.frozen? ⟨w1.heap.size, 1, none⟩ = false) => ?_) ?_; rotate_left; refine (hb4.frozen ?_).trans ?_; (focus (first | omega | (simp; done) | (simp; omega))); (focus (simp [go_sem, *]; done)))); (try (refine (fun (hm4_3 : (w1.heap.size + 1) < w4.heap.size) => ?_) ?_; rotate_left; refine Nat.lt_of_lt_of_le ?_ hb4.size; (focus (first | omega | (simp; done) | (simp; omega))); refine (fun (mq4_30 : w4.cell? ⟨(w1.heap.size + 1), 0, none⟩ = some (.int .i64 0)) => ?_) ?_; rotate_left; refine (hb4.cell ?_).trans ?_; (focus (first | omega | (simp; done) | (simp; omega))); (focus (simp [go_sem, *]; done)); refine (fun (mr4_30 : w4.frozen? ⟨(w1.heap.size + 1), 0, none⟩ = false) => ?_) ?_; rotate_left; refine (hb4.frozen ?_).trans ?_; (focus (first | omega | (simp; done) | (simp; omega))); (focus (simp [go_sem, *]; done)); refine (fun (mq4_31 : w4.cell? ⟨(w1.heap.size + 1), 1, none⟩ = some (.int .i64 0)) => ?_) ?_; rotate_left; refine (hb4.cell ?_).trans ?_; (focus (first | omega | (simp; done) | (simp; omega))); (focus (simp [go_sem, *]; done)); refine (fun (mr4_31 : w4.frozen? ⟨(w1.heap.size + 1), 1, none⟩ = false) => ?_) ?_; rotate_left; refine (hb4.frozen ?_).trans ?_; (focus (first | omega | (simp; done) | (simp; omega))); (focus (simp [go_sem, *]; done)))); (try (refine (fun (hm4_4 : w2.heap.size < w4.heap.size) => ?_) ?_; rotate_left; refine Nat.lt_of_lt_of_le ?_ hb4.size; (focus (first | omega | (simp; done) | (simp; omega))); refine (fun (mq4_40 : w4.cell? ⟨w2.heap.size, 0, none⟩ = some (.int .i64 0)) => ?_) ?_; rotate_left; refine (hb4.cell ?_).trans ?_; (focus (first | omega | (simp; done) | (simp; omega))); (focus (simp [go_sem, *]; done)); refine (fun (mr4_40 : w4.frozen? ⟨w2.heap.size, 0, none⟩ = false) => ?_) ?_; rotate_left; refine (hb4.frozen ?_).trans ?_; (focus (first | omega | (simp; done) | (simp; omega))); (focus (simp [go_sem, *]; done)); refine (fun (mq4_41 : w4.cell? ⟨w2.heap.size, 1, none⟩ = some (.int .i64 0)) => ?_) ?_; rotate_left; refine (hb4.cell ?_).trans ?_; (focus (first | omega | (simp; done) | (simp; omega))); (focus (simp [go_sem, *]; done)); refine (fun (mr4_41 : w4.frozen? ⟨w2.heap.size, 1, none⟩ = false) => ?_) ?_; rotate_left; refine (hb4.frozen ?_).trans ?_; (focus (first | omega | (simp; done) | (simp; omega))); (focus (simp [go_sem, *]; done)))); (try (refine (fun (hm4_5 : (w2.heap.size + 1) < w4.heap.size) => ?_) ?_; rotate_left; refine Nat.lt_of_lt_of_le ?_ hb4.size; (focus (first | omega | (simp; done) | (simp; omega))); refine (fun (mq4_50 : w4.cell? ⟨(w2.heap.size + 1), 0, none⟩ = some (.int .i64 0)) => ?_) ?_; rotate_left; refine (hb4.cell ?_).trans ?_; (focus (first | omega | (simp; done) | (simp; omega))); (focus (simp [go_sem, *]; done)); refine (fun (mr4_50 : w4.frozen? ⟨(w2.heap.size + 1), 0, none⟩ = false) => ?_) ?_; rotate_left; refine (hb4.frozen ?_).trans ?_; (focus (first | omega | (simp; done) | (simp; omega))); (focus (simp [go_sem, *]; done)); refine (fun (mq4_51 : w4.cell? ⟨(w2.heap.size + 1), 1, none⟩ = some (.int .i64 0)) => ?_) ?_; rotate_left; refine (hb4.cell ?_).trans ?_; (focus (first | omega | (simp; done) | (simp; omega))); (focus (simp [go_sem, *]; done)); refine (fun (mr4_51 : w4.frozen? ⟨(w2.heap.size + 1), 1, none⟩ = false) => ?_) ?_; rotate_left; refine (hb4.frozen ?_).trans ?_; (focus (first | omega | (simp; done) | (simp; omega))); (focus (simp [go_sem, *]; done)))); (try (refine (fun (hm4_6 : w3.heap.size < w4.heap.size) => ?_) ?_; rotate_left; refine Nat.lt_of_lt_of_le ?_ hb4.size; (focus (first | omega | (simp; done) | (simp; omega))); refine (fun (mq4_60 : w4.cell? ⟨w3.heap.size, 0, none⟩ = some (.int .i64 0)) => ?_) ?_; rotate_left; refine (hb4.cell ?_).trans ?_; (focus (first | omega | (simp; done) | (simp; omega))); (focus (simp [go_sem, *]; done)); refine (fun (mr4_60 : w4.frozen? ⟨w3.heap.size, 0, none⟩ = false) => ?_) ?_; rotate_left; refine (hb4.frozen ?_).trans ?_; (focus (first | omega | (simp; done) | (simp; omega))); (focus (simp [go_sem, *]; done)); refine (fun (mq4_61 : w4.cell? ⟨w3.heap.size, 1, none⟩ = some (.int .i64 0)) => ?_) ?_; rotate_left; refine (hb4.cell ?_).trans ?_; (focus (first | omega | (simp; done) | (simp; omega))); (focus (simp [go_sem, *]; done)); refine (fun (mr4_61 : w4.frozen? ⟨w3.heap.size, 1, none⟩ = false) => ?_) ?_; rotate_left; refine (hb4.frozen ?_).trans ?_; (focus (first | omega | (simp; done) | (simp; omega))); (focus (simp [go_sem, *]; done)))); (try (refine (fun (hm4_7 : (w3.heap.size + 1) < w4.heap.size) => ?_) ?_; rotate_left; refine Nat.lt_of_lt_of_le ?_ hb4.size; (focus (first | omega | (simp; done) | (simp; omega))); refine (fun (mq4_70 : w4.cell? ⟨(w3.heap.size + 1), 0, none⟩ = some (.int .i64 0)) => ?_) ?_; rotate_left; refine (hb4.cell ?_).trans ?_; (focus (first | omega | (simp; done) | (simp; omega))); (focus (simp [go_sem, *]; done)); refine (fun (mr4_70 : w4.frozen? ⟨(w3.heap.size + 1), 0, none⟩ = false) => ?_) ?_; rotate_left; refine (hb4.frozen ?_).trans ?_; (focus (first | omega | (simp; done) | (simp; omega))); (focus (simp [go_sem, *]; done)); refine (fun (mq4_71 : w4.cell? ⟨(w3.heap.size + 1), 1, none⟩ = some (.int .i64 0)) => ?_) ?_; rotate_left; refine (hb4.cell ?_).trans ?_; (focus (first | omega | (simp; done) | (simp; omega))); (focus (simp [go_sem, *]; done)); refine (fun (mr4_71 : w4.frozen? ⟨(w3.heap.size + 1), 1, none⟩ = false) => ?_) ?_; rotate_left; refine (hb4.frozen ?_).trans ?_; (focus (first | omega | (simp; done) | (simp; omega))); (focus (simp [go_sem, *]; done)))); (try (refine (fun (nx4_0 : w0.heap.size ≠ w4.heap.size) => ?_) ?_; rotate_left; omega; refine (fun (ny4_0 : w4.heap.size ≠ w0.heap.size) => ?_) ?_; rotate_left; omega)); (try (refine (fun (nx4_1 : w0.heap.size ≠ w4.heap.size + 1) => ?_) ?_; rotate_left; omega; refine (fun (ny4_1 : w4.heap.size + 1 ≠ w0.heap.size) => ?_) ?_; rotate_left; omega)); (try (refine (fun (nx4_2 : (w0.heap.size + 1) ≠ w4.heap.size) => ?_) ?_; rotate_left; omega; refine (fun (ny4_2 : w4.heap.size ≠ (w0.heap.size + 1)) => ?_) ?_; rotate_left; omega)); (try (refine (fun (nx4_3 : (w0.heap.size + 1) ≠ w4.heap.size + 1) => ?_) ?_; rotate_left; omega; refine (fun (ny4_3 : w4.heap.size + 1 ≠ (w0.heap.size + 1)) => ?_) ?_; rotate_left; omega)); (try (refine (fun (nx4_4 : w1.heap.size ≠ w4.heap.size) => ?_) ?_; rotate_left; omega; refine (fun (ny4_4 : w4.heap.size ≠ w1.heap.size) => ?_) ?_; rotate_left; omega)); (try (refine (fun (nx4_5 : w1.heap.size ≠ w4.heap.size + 1) => ?_) ?_; rotate_left; omega; refine (fun (ny4_5 : w4.heap.size + 1 ≠ w1.heap.size) => ?_) ?_; rotate_left; omega)); (try (refine (fun (nx4_6 : (w1.heap.size + 1) ≠ w4.heap.size) => ?_) ?_; rotate_left; omega; refine (fun (ny4_6 : w4.heap.size ≠ (w1.heap.size + 1)) => ?_) ?_; rotate_left; omega)); (try (refine (fun (nx4_7 : (w1.heap.size + 1) ≠ w4.heap.size + 1) => ?_) ?_; rotate_left; omega; refine (fun (ny4_7 : w4.heap.size + 1 ≠ (w1.heap.size + 1)) => ?_) ?_; rotate_left; omega)); (try (refine (fun (nx4_8 : w2.heap.size ≠ w4.heap.size) => ?_) ?_; rotate_left; omega; refine (fun (ny4_8 : w4.heap.size ≠ w2.heap.size) => ?_) ?_; rotate_left; omega)); (try (refine (fun (nx4_9 : w2.heap.size ≠ w4.heap.size + 1) => ?_) ?_; rotate_left; omega; refine (fun (ny4_9 : w4.heap.size + 1 ≠ w2.heap.size) => ?_) ?_; rotate_left; omega)); (try (refine (fun (nx4_10 : (w2.heap.size + 1) ≠ w4.heap.size) => ?_) ?_; rotate_left; omega; refine (fun (ny4_10 : w4.heap.size ≠ (w2.heap.size + 1)) => ?_) ?_; rotate_left; omega)); (try (refine (fun (nx4_11 : (w2.heap.size + 1) ≠ w4.heap.size + 1) => ?_) ?_; rotate_left; omega; refine (fun (ny4_11 : w4.heap.size + 1 ≠ (w2.heap.size + 1)) => ?_) ?_; rotate_left; omega)); (try (refine (fun (nx4_12 : w3.heap.size ≠ w4.heap.size) => ?_) ?_; rotate_left; omega; refine (fun (ny4_12 : w4.heap.size ≠ w3.heap.size) => ?_) ?_; rotate_left; omega)); (try (refine (fun (nx4_13 : w3.heap.size ≠ w4.heap.size + 1) => ?_) ?_; rotate_left; omega; refine (fun (ny4_13 : w4.heap.size + 1 ≠ w3.heap.size) => ?_) ?_; rotate_left; omega)); (try (refine (fun (nx4_14 : (w3.heap.size + 1) ≠ w4.heap.size) => ?_) ?_; rotate_left; omega; refine (fun (ny4_14 : w4.heap.size ≠ (w3.heap.size + 1)) => ?_) ?_; rotate_left; omega)); (try (refine (fun (nx4_15 : (w3.heap.size + 1) ≠ w4.heap.size + 1) => ?_) ?_; rotate_left; omega; refine (fun (ny4_15 : w4.heap.size + 1 ≠ (w3.heap.size + 1)) => ?_) ?_; rotate_left; omega)); clear hb4))
    all_goals (go_wp2_with fail; go_meet; refine ⟨_, _, rfl, rfl, ?_, ?_, ?_, ?_, by repeat' (first | (with_reducible exact Below.refl _ _) | (with_reducible assumption) | (with_reducible refine Below.alloc ?_ ?_ _) | (with_reducible refine Below.drew ?_) | (with_reducible refine Below.setCell ?_ ?_ _) | omega | (simp; done) | (simp; omega))⟩)
    all_goals (first | omega | (simp [go_sem, *]; done) | (simp; omega))
  case rest =>
    obtain ⟨bg, bh, rfl, rfl, c1, c2, c3, c4, B9⟩ := hcut
    have BB := B0.trans (B9.mono B0.size)
    by_cases e1 : b2 + eye ≤ a1
    · have f1 : decide (b2 + eye ≤ a1) = true := decide_eq_true e1
      rw [f1] at HV
      have HV := Lib.hid HV
      go_wp2_with fail
      go_ret
      exact ⟨endBool (by rw [HV.out.out]; rfl), BB⟩
    · have f1 : decide (b2 + eye ≤ a1) = false := decide_eq_false e1
      rw [f1] at HV
      have HV := Lib.hid HV
      go_wp2_with fail
      go_ret
      exact ⟨endBool (by rw [HV.out.out]; rfl), BB⟩
end Go.Proofs.Ytdbhlichldcnfaa
