/- Walks of ScaleErrors and LengthFor (layer 10). No condition. -/
import Derived.Test.YthnjiiodpjielaaErr2
import Derived.Deep.RegionHeld3
namespace Go.Proofs.Ythnjiiodpjielaa
open Go.RowKit
set_option linter.unusedVariables false

def scaledE (a b c n d : Int) : Int × Int × Int := (ceilDiv (a * n) d, ceilDiv (b * n) d, ceilDiv (c * n) d)
def rScaled (a b c n d : Int) : (Int × Int × Int) × Int :=
  if areErrorsB a b c = true then
    (if (inB n 1 1000 && inB d 1 1000) = true then
      (if areErrorsB (ceilDiv (a * n) d) (ceilDiv (b * n) d) (ceilDiv (c * n) d) = true then (scaledE a b c n d, 0) else ((0, 0, 0), 3))
    else ((0, 0, 0), 2))
  else ((0, 0, 0), 1)
theorem prod_bd {a n : Int} (h1 : 0 ≤ a) (h2 : a ≤ 200) (h3 : 1 ≤ n) (h4 : n ≤ 1000) : 0 ≤ a * n ∧ a * n ≤ 200000 :=
  ⟨Int.mul_nonneg h1 (by omega), by simpa using Int.mul_le_mul h2 h4 (by omega) (by omega)⟩
theorem endAgg3 {p : (Int × Int × Int) × Int} {x y z k : Int} (h : p = ((x, y, z), k)) :
    Ending.returned (.tuple #[.agg #[.int .i64 x, .int .i64 y, .int .i64 z], .int .i64 k]) = .returned (.tuple #[.agg #[.int .i64 p.1.1, .int .i64 p.1.2.1, .int .i64 p.1.2.2], .int .i64 p.2]) := by subst h; rfl

set_option maxHeartbeats 2000000 in
theorem iScaleErrors_any (a b c n d : Int) (w : World) :
    Calls Try.prog 51 #[.agg #[.int .i64 a, .int .i64 b, .int .i64 c], .int .i64 n, .int .i64 d] w fun e w' => e = .returned (.tuple #[.agg #[.int .i64 (rScaled a b c n d).1.1, .int .i64 (rScaled a b c n d).1.2.1, .int .i64 (rScaled a b c n d).1.2.2], .int .i64 (rScaled a b c n d).2]) ∧ Below w.heap.size w w' := by
  by_cases h : areErrorsB a b c = true
  · obtain ⟨⟨h1, h2⟩, ⟨h3, h4⟩, h5, h6⟩ := areErrorsB_iff.1 h
    by_cases e1 : inB n 1 1000 = true
    · by_cases e2 : inB d 1 1000 = true
      · obtain ⟨n1, n2⟩ := inB_iff.1 e1
        obtain ⟨d1, d2⟩ := inB_iff.1 e2
        have p1 := prod_bd h1 h2 n1 n2
        have p2 := prod_bd h3 h4 n1 n2
        have p3 := prod_bd h5 h6 n1 n2
        have q1 : IntKind.i64.wrap (a * n) = a * n := IntWalk.i64_in _ (by omega)
        have q2 : IntKind.i64.wrap (b * n) = b * n := IntWalk.i64_in _ (by omega)
        have q3 : IntKind.i64.wrap (c * n) = c * n := IntWalk.i64_in _ (by omega)
        have e12 : (inB n 1 1000 && inB d 1 1000) = true := by simp [e1, e2]
        by_cases h' : areErrorsB (ceilDiv (a * n) d) (ceilDiv (b * n) d) (ceilDiv (c * n) d) = true
        · have Hv := Lib.hid (show rScaled a b c n d = ((ceilDiv (a * n) d, ceilDiv (b * n) d, ceilDiv (c * n) d), 0) by rw [rScaled, if_pos h, if_pos e12, if_pos h', scaledE])
          clear e12
          go_enter Try.func51, Try.ntmps51
          go_wp2_with (first
            | (go_at_call 110; refine (iAreErrors_any _ _ _ _).mono ?_; rintro e w' ⟨rfl, rfl⟩)
            | (go_at_call 66; refine (within_any _ _ _ _).mono ?_; rintro e w' ⟨rfl, rfl⟩))
          go_region_held3 (fun w' => w'.cell? ⟨w.heap.size, 0, none⟩ = some (.int .i64 a) ∧ w'.cell? ⟨w.heap.size, 1, none⟩ = some (.int .i64 b) ∧ w'.cell? ⟨w.heap.size, 2, none⟩ = some (.int .i64 c)) (go_keep)
            (first | (go_at_call 120; refine (up_any _ _ _ d1 (by omega) (by omega) (by omega)).mono ?_; rintro e w' ⟨rfl, rfl⟩))
          all_goals (clear q1 q2 q3; go_wp2_with (go_at_call 110; refine (iAreErrors_any _ _ _ _).mono ?_; rintro e w' ⟨rfl, rfl⟩); exact bodyPost_ret (v := .tuple #[.agg #[.int .i64 (ceilDiv (a * n) d), .int .i64 (ceilDiv (b * n) d), .int .i64 (ceilDiv (c * n) d)], .int .i64 0]) (by simp [results, Try.results51, go_sem]) rfl ⟨endAgg3 Hv.out, by repeat' (first | exact Below.refl _ _ | assumption | refine Below.alloc ?_ (by first | omega | (simp; done) | (simp; omega)) _ | refine Below.drew ?_ | refine Below.setCell ?_ (by first | omega | (simp; done) | (simp; omega)) _)⟩)
        · have Hv := Lib.hid (show rScaled a b c n d = ((0, 0, 0), 3) by rw [rScaled, if_pos h, if_pos e12, if_neg h'])
          clear e12
          go_enter Try.func51, Try.ntmps51
          go_wp2_with (first
            | (go_at_call 110; refine (iAreErrors_any _ _ _ _).mono ?_; rintro e w' ⟨rfl, rfl⟩)
            | (go_at_call 66; refine (within_any _ _ _ _).mono ?_; rintro e w' ⟨rfl, rfl⟩))
          go_region_held3 (fun w' => w'.cell? ⟨w.heap.size, 0, none⟩ = some (.int .i64 a) ∧ w'.cell? ⟨w.heap.size, 1, none⟩ = some (.int .i64 b) ∧ w'.cell? ⟨w.heap.size, 2, none⟩ = some (.int .i64 c)) (go_keep)
            (first | (go_at_call 120; refine (up_any _ _ _ d1 (by omega) (by omega) (by omega)).mono ?_; rintro e w' ⟨rfl, rfl⟩))
          all_goals (clear q1 q2 q3; go_wp2_with (go_at_call 110; refine (iAreErrors_any _ _ _ _).mono ?_; rintro e w' ⟨rfl, rfl⟩); exact bodyPost_ret (v := .tuple #[.agg #[.int .i64 0, .int .i64 0, .int .i64 0], .int .i64 3]) (by simp [results, Try.results51, go_sem]) rfl ⟨endAgg3 Hv.out, by repeat' (first | exact Below.refl _ _ | assumption | refine Below.alloc ?_ (by first | omega | (simp; done) | (simp; omega)) _ | refine Below.drew ?_ | refine Below.setCell ?_ (by first | omega | (simp; done) | (simp; omega)) _)⟩)
      · have Hv := Lib.hid (show rScaled a b c n d = ((0, 0, 0), 2) by rw [rScaled, if_pos h, if_neg (by simp [e1, e2])])
        go_enter Try.func51, Try.ntmps51
        go_wp2_with (first
          | (go_at_call 110; refine (iAreErrors_any _ _ _ _).mono ?_; rintro e w' ⟨rfl, rfl⟩)
          | (go_at_call 66; refine (within_any _ _ _ _).mono ?_; rintro e w' ⟨rfl, rfl⟩))
        exact bodyPost_ret (v := .tuple #[.agg #[.int .i64 0, .int .i64 0, .int .i64 0], .int .i64 2]) (by simp [results, Try.results51, go_sem]) rfl ⟨endAgg3 Hv.out, by repeat' (first | exact Below.refl _ _ | assumption | refine Below.alloc ?_ (by first | omega | (simp; done) | (simp; omega)) _ | refine Below.drew ?_ | refine Below.setCell ?_ (by first | omega | (simp; done) | (simp; omega)) _)⟩
    · have Hv := Lib.hid (show rScaled a b c n d = ((0, 0, 0), 2) by rw [rScaled, if_pos h, if_neg (by simp [e1])])
      go_enter Try.func51, Try.ntmps51
      go_wp2_with (first
        | (go_at_call 110; refine (iAreErrors_any _ _ _ _).mono ?_; rintro e w' ⟨rfl, rfl⟩)
        | (go_at_call 66; refine (within_any _ _ _ _).mono ?_; rintro e w' ⟨rfl, rfl⟩))
      exact bodyPost_ret (v := .tuple #[.agg #[.int .i64 0, .int .i64 0, .int .i64 0], .int .i64 2]) (by simp [results, Try.results51, go_sem]) rfl ⟨endAgg3 Hv.out, by repeat' (first | exact Below.refl _ _ | assumption | refine Below.alloc ?_ (by first | omega | (simp; done) | (simp; omega)) _ | refine Below.drew ?_ | refine Below.setCell ?_ (by first | omega | (simp; done) | (simp; omega)) _)⟩
  · have Hv := Lib.hid (show rScaled a b c n d = ((0, 0, 0), 1) by rw [rScaled, if_neg h])
    go_enter Try.func51, Try.ntmps51
    go_wp2_with (go_at_call 110; refine (iAreErrors_any _ _ _ _).mono ?_; rintro e w' ⟨rfl, rfl⟩)
    exact bodyPost_ret (v := .tuple #[.agg #[.int .i64 0, .int .i64 0, .int .i64 0], .int .i64 1]) (by simp [results, Try.results51, go_sem]) rfl ⟨endAgg3 Hv.out, by repeat' (first | exact Below.refl _ _ | assumption | refine Below.alloc ?_ (by first | omega | (simp; done) | (simp; omega)) _ | refine Below.drew ?_ | refine Below.setCell ?_ (by first | omega | (simp; done) | (simp; omega)) _)⟩
set_option maxHeartbeats 2000000 in
theorem sScaleErrors_any (a b c n d : Int) (w : World) :
    Calls Try.prog 52 #[.agg #[.int .i64 a, .int .i64 b, .int .i64 c], .int .i64 n, .int .i64 d] w fun e w' => e = .returned (.tuple #[.agg #[.int .i64 (rScaled a b c n d).1.1, .int .i64 (rScaled a b c n d).1.2.1, .int .i64 (rScaled a b c n d).1.2.2], .int .i64 (rScaled a b c n d).2]) ∧ Below w.heap.size w w' := by
  by_cases h : areErrorsB a b c = true
  · obtain ⟨⟨h1, h2⟩, ⟨h3, h4⟩, h5, h6⟩ := areErrorsB_iff.1 h
    by_cases e1 : inB n 1 1000 = true
    · by_cases e2 : inB d 1 1000 = true
      · obtain ⟨n1, n2⟩ := inB_iff.1 e1
        obtain ⟨d1, d2⟩ := inB_iff.1 e2
        have p1 := prod_bd h1 h2 n1 n2
        have p2 := prod_bd h3 h4 n1 n2
        have p3 := prod_bd h5 h6 n1 n2
        have q1 : IntKind.i64.wrap (a * n) = a * n := IntWalk.i64_in _ (by omega)
        have q2 : IntKind.i64.wrap (b * n) = b * n := IntWalk.i64_in _ (by omega)
        have q3 : IntKind.i64.wrap (c * n) = c * n := IntWalk.i64_in _ (by omega)
        have e12 : (inB n 1 1000 && inB d 1 1000) = true := by simp [e1, e2]
        by_cases h' : areErrorsB (ceilDiv (a * n) d) (ceilDiv (b * n) d) (ceilDiv (c * n) d) = true
        · have Hv := Lib.hid (show rScaled a b c n d = ((ceilDiv (a * n) d, ceilDiv (b * n) d, ceilDiv (c * n) d), 0) by rw [rScaled, if_pos h, if_pos e12, if_pos h', scaledE])
          clear e12
          go_enter Try.func52, Try.ntmps52
          go_wp2_with (first
            | (go_at_call 113; refine (sAreErrors_any _ _ _ _).mono ?_; rintro e w' ⟨rfl, rfl⟩)
            | (go_at_call 70; refine (l01In_any _ _ _ _).mono ?_; rintro e w' ⟨rfl, rfl⟩))
          go_region_held3 (fun w' => w'.cell? ⟨w.heap.size, 0, none⟩ = some (.int .i64 a) ∧ w'.cell? ⟨w.heap.size, 1, none⟩ = some (.int .i64 b) ∧ w'.cell? ⟨w.heap.size, 2, none⟩ = some (.int .i64 c)) (go_keep)
            (first | (go_at_call 121; refine (l01Ceil_any _ _ _ d1 (by omega) (by omega) (by omega)).mono ?_; rintro e w' ⟨rfl, rfl⟩))
          all_goals (clear q1 q2 q3; go_wp2_with (go_at_call 113; refine (sAreErrors_any _ _ _ _).mono ?_; rintro e w' ⟨rfl, rfl⟩); exact bodyPost_ret (v := .tuple #[.agg #[.int .i64 (ceilDiv (a * n) d), .int .i64 (ceilDiv (b * n) d), .int .i64 (ceilDiv (c * n) d)], .int .i64 0]) (by simp [results, Try.results52, go_sem]) rfl ⟨endAgg3 Hv.out, by repeat' (first | exact Below.refl _ _ | assumption | refine Below.alloc ?_ (by first | omega | (simp; done) | (simp; omega)) _ | refine Below.drew ?_ | refine Below.setCell ?_ (by first | omega | (simp; done) | (simp; omega)) _)⟩)
        · have Hv := Lib.hid (show rScaled a b c n d = ((0, 0, 0), 3) by rw [rScaled, if_pos h, if_pos e12, if_neg h'])
          clear e12
          go_enter Try.func52, Try.ntmps52
          go_wp2_with (first
            | (go_at_call 113; refine (sAreErrors_any _ _ _ _).mono ?_; rintro e w' ⟨rfl, rfl⟩)
            | (go_at_call 70; refine (l01In_any _ _ _ _).mono ?_; rintro e w' ⟨rfl, rfl⟩))
          go_region_held3 (fun w' => w'.cell? ⟨w.heap.size, 0, none⟩ = some (.int .i64 a) ∧ w'.cell? ⟨w.heap.size, 1, none⟩ = some (.int .i64 b) ∧ w'.cell? ⟨w.heap.size, 2, none⟩ = some (.int .i64 c)) (go_keep)
            (first | (go_at_call 121; refine (l01Ceil_any _ _ _ d1 (by omega) (by omega) (by omega)).mono ?_; rintro e w' ⟨rfl, rfl⟩))
          all_goals (clear q1 q2 q3; go_wp2_with (go_at_call 113; refine (sAreErrors_any _ _ _ _).mono ?_; rintro e w' ⟨rfl, rfl⟩); exact bodyPost_ret (v := .tuple #[.agg #[.int .i64 0, .int .i64 0, .int .i64 0], .int .i64 3]) (by simp [results, Try.results52, go_sem]) rfl ⟨endAgg3 Hv.out, by repeat' (first | exact Below.refl _ _ | assumption | refine Below.alloc ?_ (by first | omega | (simp; done) | (simp; omega)) _ | refine Below.drew ?_ | refine Below.setCell ?_ (by first | omega | (simp; done) | (simp; omega)) _)⟩)
      · have Hv := Lib.hid (show rScaled a b c n d = ((0, 0, 0), 2) by rw [rScaled, if_pos h, if_neg (by simp [e1, e2])])
        go_enter Try.func52, Try.ntmps52
        go_wp2_with (first
          | (go_at_call 113; refine (sAreErrors_any _ _ _ _).mono ?_; rintro e w' ⟨rfl, rfl⟩)
          | (go_at_call 70; refine (l01In_any _ _ _ _).mono ?_; rintro e w' ⟨rfl, rfl⟩))
        exact bodyPost_ret (v := .tuple #[.agg #[.int .i64 0, .int .i64 0, .int .i64 0], .int .i64 2]) (by simp [results, Try.results52, go_sem]) rfl ⟨endAgg3 Hv.out, by repeat' (first | exact Below.refl _ _ | assumption | refine Below.alloc ?_ (by first | omega | (simp; done) | (simp; omega)) _ | refine Below.drew ?_ | refine Below.setCell ?_ (by first | omega | (simp; done) | (simp; omega)) _)⟩
    · have Hv := Lib.hid (show rScaled a b c n d = ((0, 0, 0), 2) by rw [rScaled, if_pos h, if_neg (by simp [e1])])
      go_enter Try.func52, Try.ntmps52
      go_wp2_with (first
        | (go_at_call 113; refine (sAreErrors_any _ _ _ _).mono ?_; rintro e w' ⟨rfl, rfl⟩)
        | (go_at_call 70; refine (l01In_any _ _ _ _).mono ?_; rintro e w' ⟨rfl, rfl⟩))
      exact bodyPost_ret (v := .tuple #[.agg #[.int .i64 0, .int .i64 0, .int .i64 0], .int .i64 2]) (by simp [results, Try.results52, go_sem]) rfl ⟨endAgg3 Hv.out, by repeat' (first | exact Below.refl _ _ | assumption | refine Below.alloc ?_ (by first | omega | (simp; done) | (simp; omega)) _ | refine Below.drew ?_ | refine Below.setCell ?_ (by first | omega | (simp; done) | (simp; omega)) _)⟩
  · have Hv := Lib.hid (show rScaled a b c n d = ((0, 0, 0), 1) by rw [rScaled, if_neg h])
    go_enter Try.func52, Try.ntmps52
    go_wp2_with (go_at_call 113; refine (sAreErrors_any _ _ _ _).mono ?_; rintro e w' ⟨rfl, rfl⟩)
    exact bodyPost_ret (v := .tuple #[.agg #[.int .i64 0, .int .i64 0, .int .i64 0], .int .i64 1]) (by simp [results, Try.results52, go_sem]) rfl ⟨endAgg3 Hv.out, by repeat' (first | exact Below.refl _ _ | assumption | refine Below.alloc ?_ (by first | omega | (simp; done) | (simp; omega)) _ | refine Below.drew ?_ | refine Below.setCell ?_ (by first | omega | (simp; done) | (simp; omega)) _)⟩
end Go.Proofs.Ythnjiiodpjielaa
