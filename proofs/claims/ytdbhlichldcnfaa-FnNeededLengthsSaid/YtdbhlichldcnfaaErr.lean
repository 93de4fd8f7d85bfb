/- Walks of the errors of a rule (layer 10) and of the plain functions on scales. No condition. -/
import Derived.Test.YtdbhlichldcnfaaNum
import Derived.BigQuiet
import Derived.Deep.QuietTactic
import Derived.StillTailTactics
import Derived.Outline
namespace Go.Proofs.Ytdbhlichldcnfaa
open Go.RowKit

set_option maxHeartbeats 400000 in
theorem toFigure_any (a b : Int) (w : World) :
    Calls Try.prog 19 #[.agg #[.int .i64 a, .int .i64 b]] w fun e w' => e = .returned (.agg #[.int .i64 a, .int .i64 b]) ∧
      ((w.alloc (.cells #[.int .i64 a, .int .i64 b] 36)).alloc (.cells #[.int .i64 a, .int .i64 b] 38)).alloc (.cells #[.int .i64 a, .int .i64 b] 38) = w' := by
  go_enter Try.func19, Try.ntmps19
  go_wp2
  exact bodyPost_ret (v := .agg #[.int .i64 a, .int .i64 b]) (by simp [results, Try.results19, go_sem]) rfl ⟨rfl, rfl⟩

def areErrorsB (a b c : Int) : Bool := inB a 0 200 && inB b 0 200 && inB c 0 200
theorem areErrorsB_iff {a b c : Int} : areErrorsB a b c = true ↔ (0 ≤ a ∧ a ≤ 200) ∧ (0 ≤ b ∧ b ≤ 200) ∧ 0 ≤ c ∧ c ≤ 200 := by
  simp [areErrorsB, inB_iff, and_assoc]
set_option maxHeartbeats 400000 in
theorem iAreErrors_any (a b c : Int) (w : World) :
    Calls Try.prog 17 #[.agg #[.int .i64 a, .int .i64 b, .int .i64 c]] w fun e w' => e = .returned (.bool (areErrorsB a b c)) ∧ (w.alloc (.cells #[.int .i64 a, .int .i64 b, .int .i64 c] 25)) = w' := by
  go_enter Try.func17, Try.ntmps17
  go_wp2_with (go_at_call 63; refine (within_any _ _ _ _).mono ?_; rintro e w' ⟨rfl, rfl⟩)
  all_goals go_ret
  all_goals (refine ⟨endBool ?_, rfl⟩)
  all_goals simp_all [areErrorsB]
set_option maxHeartbeats 400000 in
theorem l10Eye_any (n : Int) (w : World) :
    Calls Try.prog 98 #[.int .i64 n] w fun e w' => e = .returned (.bool (inB n 0 200)) ∧ w = w' := by
  go_enter Try.func98, Try.ntmps98
  go_wp2_with (go_at_call 65; refine (l01In_any _ _ _ _).mono ?_; rintro e w' ⟨rfl, rfl⟩)
  go_ret
  exact ⟨rfl, rfl⟩
set_option maxHeartbeats 400000 in
theorem sAreErrors_any (a b c : Int) (w : World) :
    Calls Try.prog 55 #[.agg #[.int .i64 a, .int .i64 b, .int .i64 c]] w fun e w' => e = .returned (.bool (areErrorsB a b c)) ∧ (w.alloc (.cells #[.int .i64 a, .int .i64 b, .int .i64 c] 25)) = w' := by
  go_enter Try.func55, Try.ntmps55
  go_wp2_with (go_at_call 98; refine (l10Eye_any _ _).mono ?_; rintro e w' ⟨rfl, rfl⟩)
  all_goals go_ret
  all_goals (refine ⟨endBool ?_, rfl⟩)
  all_goals simp_all [areErrorsB]
set_option maxHeartbeats 400000 in
theorem totalError_any (a b c : Int) (w : World) (h1 : 0 ≤ a) (h2 : a ≤ 200) (h3 : 0 ≤ b) (h4 : b ≤ 200) (h5 : 0 ≤ c) (h6 : c ≤ 200) :
    Calls Try.prog 59 #[.agg #[.int .i64 a, .int .i64 b, .int .i64 c]] w fun e w' => e = .returned (.int .i64 (2 * a + b + c)) ∧ (w.alloc (.cells #[.int .i64 a, .int .i64 b, .int .i64 c] 25)) = w' := by
  go_enter Try.func59, Try.ntmps59
  go_wp2
  go_ret
  exact ⟨rfl, rfl⟩
set_option maxHeartbeats 400000 in
theorem l10Total_any (a b c : Int) (w : World) (h1 : 0 ≤ a) (h2 : a ≤ 200) (h3 : 0 ≤ b) (h4 : b ≤ 200) (h5 : 0 ≤ c) (h6 : c ≤ 200) :
    Calls Try.prog 60 #[.agg #[.int .i64 a, .int .i64 b, .int .i64 c]] w fun e w' => e = .returned (.int .i64 (2 * a + b + c)) ∧ (w.alloc (.cells #[.int .i64 a, .int .i64 b, .int .i64 c] 25)) = w' := by
  go_enter Try.func60, Try.ntmps60
  go_wp2
  go_ret
  exact ⟨rfl, rfl⟩

def rTotal (a b c : Int) : Int × Int := if areErrorsB a b c = true then (2 * a + b + c, 0) else (0, 1)
set_option maxHeartbeats 400000 in
theorem iTotalError_any (a b c : Int) (w : World) :
    Calls Try.prog 12 #[.agg #[.int .i64 a, .int .i64 b, .int .i64 c]] w fun e w' => e = .returned (.tuple #[.int .i64 (rTotal a b c).1, .int .i64 (rTotal a b c).2]) ∧ Below w.heap.size w w' := by
  by_cases h : areErrorsB a b c = true
  · have hh := areErrorsB_iff.1 h
    have Hv := Lib.hid (show rTotal a b c = (2 * a + b + c, 0) by simp [rTotal, h])
    obtain ⟨⟨h1, h2⟩, ⟨h3, h4⟩, h5, h6⟩ := hh
    go_enter Try.func12, Try.ntmps12
    go_wp2_with (first
      | (go_at_call 17; refine (iAreErrors_any _ _ _ _).mono ?_; rintro e w' ⟨rfl, rfl⟩)
      | (go_at_call 59; refine (totalError_any _ _ _ _ h1 h2 h3 h4 h5 h6).mono ?_; rintro e w' ⟨rfl, rfl⟩))
    go_ret2
    exact ⟨endTwo Hv.out, by repeat' (first | exact Below.refl _ _ | assumption | refine Below.alloc ?_ (by first | omega | (simp; done) | (simp; omega)) _ | refine Below.drew ?_ | refine Below.setCell ?_ (by first | omega | (simp; done) | (simp; omega)) _)⟩
  · have Hv := Lib.hid (show rTotal a b c = (0, 1) by simp [rTotal, h])
    go_enter Try.func12, Try.ntmps12
    go_wp2_with (go_at_call 17; refine (iAreErrors_any _ _ _ _).mono ?_; rintro e w' ⟨rfl, rfl⟩)
    go_ret2
    exact ⟨endTwo Hv.out, by repeat' (first | exact Below.refl _ _ | assumption | refine Below.alloc ?_ (by first | omega | (simp; done) | (simp; omega)) _ | refine Below.drew ?_ | refine Below.setCell ?_ (by first | omega | (simp; done) | (simp; omega)) _)⟩
set_option maxHeartbeats 400000 in
theorem sTotalError_any (a b c : Int) (w : World) :
    Calls Try.prog 13 #[.agg #[.int .i64 a, .int .i64 b, .int .i64 c]] w fun e w' => e = .returned (.tuple #[.int .i64 (rTotal a b c).1, .int .i64 (rTotal a b c).2]) ∧ Below w.heap.size w w' := by
  by_cases h : areErrorsB a b c = true
  · have hh := areErrorsB_iff.1 h
    have Hv := Lib.hid (show rTotal a b c = (2 * a + b + c, 0) by simp [rTotal, h])
    obtain ⟨⟨h1, h2⟩, ⟨h3, h4⟩, h5, h6⟩ := hh
    go_enter Try.func13, Try.ntmps13
    go_wp2_with (first
      | (go_at_call 55; refine (sAreErrors_any _ _ _ _).mono ?_; rintro e w' ⟨rfl, rfl⟩)
      | (go_at_call 60; refine (l10Total_any _ _ _ _ h1 h2 h3 h4 h5 h6).mono ?_; rintro e w' ⟨rfl, rfl⟩))
    go_ret2
    exact ⟨endTwo Hv.out, by repeat' (first | exact Below.refl _ _ | assumption | refine Below.alloc ?_ (by first | omega | (simp; done) | (simp; omega)) _ | refine Below.drew ?_ | refine Below.setCell ?_ (by first | omega | (simp; done) | (simp; omega)) _)⟩
  · have Hv := Lib.hid (show rTotal a b c = (0, 1) by simp [rTotal, h])
    go_enter Try.func13, Try.ntmps13
    go_wp2_with (go_at_call 55; refine (sAreErrors_any _ _ _ _).mono ?_; rintro e w' ⟨rfl, rfl⟩)
    go_ret2
    exact ⟨endTwo Hv.out, by repeat' (first | exact Below.refl _ _ | assumption | refine Below.alloc ?_ (by first | omega | (simp; done) | (simp; omega)) _ | refine Below.drew ?_ | refine Below.setCell ?_ (by first | omega | (simp; done) | (simp; omega)) _)⟩
end Go.Proofs.Ytdbhlichldcnfaa
