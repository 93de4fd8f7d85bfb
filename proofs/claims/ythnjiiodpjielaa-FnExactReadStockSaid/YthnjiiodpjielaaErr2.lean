/- Walks of the plain functions on scales and lengths, and of the units of errors (layers 5, 10). No condition. -/
import Derived.Test.YthnjiiodpjielaaErr
namespace Go.Proofs.Ythnjiiodpjielaa
open Go.RowKit
set_option linter.unusedVariables false

set_option maxHeartbeats 400000 in
theorem isLength_any (n : Int) (w : World) :
    Calls Try.prog 65 #[.int .i64 n] w fun e w' => e = .returned (.bool (inB n 1 100000)) ∧ w = w' := by
  go_enter Try.func65, Try.ntmps65
  go_wp2_with (go_at_call 66; refine (within_any _ _ _ _).mono ?_; rintro e w' ⟨rfl, rfl⟩)
  go_ret
  exact ⟨rfl, rfl⟩
set_option maxHeartbeats 400000 in
theorem l05Length_any (n : Int) (w : World) :
    Calls Try.prog 69 #[.int .i64 n] w fun e w' => e = .returned (.bool (inB n 1 100000)) ∧ w = w' := by
  go_enter Try.func69, Try.ntmps69
  go_wp2_with (go_at_call 70; refine (l01In_any _ _ _ _).mono ?_; rintro e w' ⟨rfl, rfl⟩)
  go_ret
  exact ⟨rfl, rfl⟩
set_option maxHeartbeats 400000 in
theorem iIsScale_any (n : Int) (w : World) :
    Calls Try.prog 64 #[.int .i64 n] w fun e w' => e = .returned (.bool (inB n 0 5)) ∧ w = w' := by
  go_enter Try.func64, Try.ntmps64
  go_wp2_with (go_at_call 66; refine (within_any _ _ _ _).mono ?_; rintro e w' ⟨rfl, rfl⟩)
  go_ret
  exact ⟨rfl, rfl⟩
set_option maxHeartbeats 400000 in
theorem sIsScale_any (n : Int) (w : World) :
    Calls Try.prog 68 #[.int .i64 n] w fun e w' => e = .returned (.bool (inB n 0 5)) ∧ w = w' := by
  go_enter Try.func68, Try.ntmps68
  go_wp2_with (go_at_call 70; refine (l01In_any _ _ _ _).mono ?_; rintro e w' ⟨rfl, rfl⟩)
  go_ret
  exact ⟨rfl, rfl⟩
set_option maxHeartbeats 400000 in
theorem decadesOf_any (n : Int) (w : World) (h1 : 0 ≤ n) (h2 : n ≤ 5) :
    Calls Try.prog 88 #[.int .i64 n] w fun e w' => e = .returned (.int .i64 (decades n)) ∧ w.alloc (.cells #[.int .i64 1, .int .i64 2, .int .i64 3, .int .i64 1, .int .i64 1, .int .i64 1] 2) = w' := by
  obtain rfl | rfl | rfl | rfl | rfl | rfl : n = 0 ∨ n = 1 ∨ n = 2 ∨ n = 3 ∨ n = 4 ∨ n = 5 := by omega
  all_goals
    go_enter Try.func88, Try.ntmps88
    go_wp2
    go_ret
    exact ⟨rfl, rfl⟩
set_option maxHeartbeats 400000 in
theorem l05Decades_any (n : Int) (w : World) :
    Calls Try.prog 137 #[.int .i64 n] w fun e w' => e = .returned (.int .i64 (decades n)) ∧ w = w' := by
  go_enter Try.func137, Try.ntmps137
  go_wp2
  all_goals go_ret
  all_goals (refine ⟨endInt ?_, rfl⟩)
  all_goals simp_all [decades]

def errScaleB (s : Int) : Bool := inB s 0 5 && (s != 5)
theorem errScaleB_iff {s : Int} : errScaleB s = true ↔ 0 ≤ s ∧ s ≤ 4 := by
  simp [errScaleB, inB_iff]
  omega
set_option maxHeartbeats 400000 in
theorem isErrorScale_any (s l : Int) (w : World) :
    Calls Try.prog 111 #[.int .i64 s, .int .i64 l] w fun e w' => e = .returned (.bool (errScaleB s && inB l 1 100000)) ∧ w = w' := by
  go_enter Try.func111, Try.ntmps111
  go_wp2_with (first
    | (go_at_call 64; refine (iIsScale_any _ _).mono ?_; rintro e w' ⟨rfl, rfl⟩)
    | (go_at_call 65; refine (isLength_any _ _).mono ?_; rintro e w' ⟨rfl, rfl⟩))
  all_goals go_ret
  all_goals (refine ⟨endBool ?_, rfl⟩)
  all_goals simp_all [errScaleB]
set_option maxHeartbeats 400000 in
theorem l10Scale_any (s : Int) (w : World) :
    Calls Try.prog 161 #[.int .i64 s] w fun e w' => e = .returned (.bool (errScaleB s)) ∧ w = w' := by
  go_enter Try.func161, Try.ntmps161
  go_wp2_with (go_at_call 68; refine (sIsScale_any _ _).mono ?_; rintro e w' ⟨rfl, rfl⟩)
  all_goals go_ret
  all_goals (refine ⟨endBool ?_, rfl⟩)
  all_goals simp_all [errScaleB]

/-- what errors need, in units of a rule of length 1 -/
def errNeed (s a b c : Int) : Int := (2 * a + b + c) * 1048576 * decades s
theorem errNeed_bd {s a b c : Int} (h1 : 0 ≤ a) (h2 : a ≤ 200) (h3 : 0 ≤ b) (h4 : b ≤ 200) (h5 : 0 ≤ c) (h6 : c ≤ 200) : 0 ≤ (2 * a + b + c) * 1048576 * decades s ∧ (2 * a + b + c) * 1048576 * decades s ≤ 2516582400 := by
  unfold decades
  split
  · omega
  · split <;> omega
def errU (s l a b c : Int) : Int := ceilDiv ((2 * a + b + c) * 1048576 * decades s) l
def rUnits (s l a b c : Int) : Int × Int := if areErrorsB a b c = true then (if (errScaleB s && inB l 1 100000) = true then (errU s l a b c, 0) else (0, 2)) else (0, 1)
set_option maxHeartbeats 400000 in
theorem errorUnits_any (s l a b c : Int) (w : World) (g1 : 0 ≤ s) (g2 : s ≤ 5) (k1 : 0 < l) (k2 : l ≤ 100000) (h1 : 0 ≤ a) (h2 : a ≤ 200) (h3 : 0 ≤ b) (h4 : b ≤ 200) (h5 : 0 ≤ c) (h6 : c ≤ 200) :
    Calls Try.prog 112 #[.int .i64 s, .int .i64 l, .agg #[.int .i64 a, .int .i64 b, .int .i64 c]] w fun e w' => e = .returned (.int .i64 (errU s l a b c)) ∧ Below w.heap.size w w' := by
  have hn := errNeed_bd (s := s) h1 h2 h3 h4 h5 h6
  go_enter Try.func112, Try.ntmps112
  go_wp2_with (first
    | (go_at_call 159; refine (totalError_any _ _ _ _ h1 h2 h3 h4 h5 h6).mono ?_; rintro e w' ⟨rfl, rfl⟩)
    | (go_at_call 88; refine (decadesOf_any _ _ g1 g2).mono ?_; rintro e w' ⟨rfl, rfl⟩)
    | (go_at_call 120; refine (up_any _ _ _ k1 (by omega) (by omega) (by omega)).mono ?_; rintro e w' ⟨rfl, rfl⟩))
  go_ret
  exact ⟨rfl, by repeat' (first | exact Below.refl _ _ | assumption | refine Below.alloc ?_ (by first | omega | (simp; done) | (simp; omega)) _ | refine Below.drew ?_ | refine Below.setCell ?_ (by first | omega | (simp; done) | (simp; omega)) _)⟩
set_option maxHeartbeats 400000 in
theorem l10Units_any (s l a b c : Int) (w : World) (g1 : 0 ≤ s) (g2 : s ≤ 5) (k1 : 0 < l) (k2 : l ≤ 100000) (h1 : 0 ≤ a) (h2 : a ≤ 200) (h3 : 0 ≤ b) (h4 : b ≤ 200) (h5 : 0 ≤ c) (h6 : c ≤ 200) :
    Calls Try.prog 162 #[.int .i64 s, .int .i64 l, .agg #[.int .i64 a, .int .i64 b, .int .i64 c]] w fun e w' => e = .returned (.int .i64 (errU s l a b c)) ∧ Below w.heap.size w w' := by
  have hn := errNeed_bd (s := s) h1 h2 h3 h4 h5 h6
  go_enter Try.func162, Try.ntmps162
  go_wp2_with (first
    | (go_at_call 192; refine (l10Total_any _ _ _ _ h1 h2 h3 h4 h5 h6).mono ?_; rintro e w' ⟨rfl, rfl⟩)
    | (go_at_call 137; refine (l05Decades_any _ _).mono ?_; rintro e w' ⟨rfl, rfl⟩)
    | (go_at_call 121; refine (l01Ceil_any _ _ _ k1 (by omega) (by omega) (by omega)).mono ?_; rintro e w' ⟨rfl, rfl⟩))
  go_ret
  exact ⟨rfl, by repeat' (first | exact Below.refl _ _ | assumption | refine Below.alloc ?_ (by first | omega | (simp; done) | (simp; omega)) _ | refine Below.drew ?_ | refine Below.setCell ?_ (by first | omega | (simp; done) | (simp; omega)) _)⟩
set_option maxHeartbeats 400000 in
theorem iErrorUnits_any (s l a b c : Int) (w : World) :
    Calls Try.prog 116 #[.int .i64 s, .int .i64 l, .agg #[.int .i64 a, .int .i64 b, .int .i64 c]] w fun e w' => e = .returned (.tuple #[.int .i64 (rUnits s l a b c).1, .int .i64 (rUnits s l a b c).2]) ∧ Below w.heap.size w w' := by
  by_cases h : areErrorsB a b c = true
  · obtain ⟨⟨h1, h2⟩, ⟨h3, h4⟩, h5, h6⟩ := areErrorsB_iff.1 h
    by_cases h' : (errScaleB s && inB l 1 100000) = true
    · have Hv := Lib.hid (show rUnits s l a b c = (errU s l a b c, 0) by rw [rUnits, if_pos h, if_pos h'])
      simp only [Bool.and_eq_true] at h'
      obtain ⟨e1, e2⟩ := h'
      obtain ⟨g1, g2⟩ := errScaleB_iff.1 e1
      obtain ⟨k1, k2⟩ := inB_iff.1 e2
      go_enter Try.func116, Try.ntmps116
      go_wp2_with (first
        | (go_at_call 110; refine (iAreErrors_any _ _ _ _).mono ?_; rintro e w' ⟨rfl, rfl⟩)
        | (go_at_call 111; refine (isErrorScale_any _ _ _).mono ?_; rintro e w' ⟨rfl, rfl⟩)
        | (go_at_call 112; refine (errorUnits_any _ _ _ _ _ _ g1 (by omega) (by omega) k2 h1 h2 h3 h4 h5 h6).mono ?_; rintro e w1 ⟨rfl, hb1⟩; have hB1 : Below w.heap.size w w1 := Below.trans (by repeat' (first | exact Below.refl _ _ | assumption | refine Below.alloc ?_ (by first | omega | (simp; done) | (simp; omega)) _ | refine Below.drew ?_ | refine Below.setCell ?_ (by first | omega | (simp; done) | (simp; omega)) _)) (hb1.mono (by first | omega | (simp; done) | (simp; omega))); have hz1 := hB1.size))
      go_ret2
      exact ⟨endTwo Hv.out, by repeat' (first | exact Below.refl _ _ | assumption | refine Below.alloc ?_ (by first | omega | (simp; done) | (simp; omega)) _ | refine Below.drew ?_ | refine Below.setCell ?_ (by first | omega | (simp; done) | (simp; omega)) _)⟩
    · have Hv := Lib.hid (show rUnits s l a b c = (0, 2) by rw [rUnits, if_pos h, if_neg h'])
      simp only [Bool.and_eq_true, not_and, Bool.not_eq_true] at h'
      by_cases e1 : errScaleB s = true
      · have e2 := h' e1
        clear h'
        go_enter Try.func116, Try.ntmps116
        go_wp2_with (first
          | (go_at_call 110; refine (iAreErrors_any _ _ _ _).mono ?_; rintro e w' ⟨rfl, rfl⟩)
          | (go_at_call 111; refine (isErrorScale_any _ _ _).mono ?_; rintro e w' ⟨rfl, rfl⟩))
        go_ret2
        exact ⟨endTwo Hv.out, by repeat' (first | exact Below.refl _ _ | assumption | refine Below.alloc ?_ (by first | omega | (simp; done) | (simp; omega)) _ | refine Below.drew ?_ | refine Below.setCell ?_ (by first | omega | (simp; done) | (simp; omega)) _)⟩
      · clear h'
        go_enter Try.func116, Try.ntmps116
        go_wp2_with (first
          | (go_at_call 110; refine (iAreErrors_any _ _ _ _).mono ?_; rintro e w' ⟨rfl, rfl⟩)
          | (go_at_call 111; refine (isErrorScale_any _ _ _).mono ?_; rintro e w' ⟨rfl, rfl⟩))
        go_ret2
        exact ⟨endTwo Hv.out, by repeat' (first | exact Below.refl _ _ | assumption | refine Below.alloc ?_ (by first | omega | (simp; done) | (simp; omega)) _ | refine Below.drew ?_ | refine Below.setCell ?_ (by first | omega | (simp; done) | (simp; omega)) _)⟩
  · have Hv := Lib.hid (show rUnits s l a b c = (0, 1) by rw [rUnits, if_neg h])
    go_enter Try.func116, Try.ntmps116
    go_wp2_with (go_at_call 110; refine (iAreErrors_any _ _ _ _).mono ?_; rintro e w' ⟨rfl, rfl⟩)
    go_ret2
    exact ⟨endTwo Hv.out, by repeat' (first | exact Below.refl _ _ | assumption | refine Below.alloc ?_ (by first | omega | (simp; done) | (simp; omega)) _ | refine Below.drew ?_ | refine Below.setCell ?_ (by first | omega | (simp; done) | (simp; omega)) _)⟩
set_option maxHeartbeats 400000 in
theorem sErrorUnits_any (s l a b c : Int) (w : World) :
    Calls Try.prog 114 #[.int .i64 s, .int .i64 l, .agg #[.int .i64 a, .int .i64 b, .int .i64 c]] w fun e w' => e = .returned (.tuple #[.int .i64 (rUnits s l a b c).1, .int .i64 (rUnits s l a b c).2]) ∧ Below w.heap.size w w' := by
  by_cases h : areErrorsB a b c = true
  · obtain ⟨⟨h1, h2⟩, ⟨h3, h4⟩, h5, h6⟩ := areErrorsB_iff.1 h
    by_cases h' : (errScaleB s && inB l 1 100000) = true
    · have Hv := Lib.hid (show rUnits s l a b c = (errU s l a b c, 0) by rw [rUnits, if_pos h, if_pos h'])
      simp only [Bool.and_eq_true] at h'
      obtain ⟨e1, e2⟩ := h'
      obtain ⟨g1, g2⟩ := errScaleB_iff.1 e1
      obtain ⟨k1, k2⟩ := inB_iff.1 e2
      go_enter Try.func114, Try.ntmps114
      go_wp2_with (first
        | (go_at_call 113; refine (sAreErrors_any _ _ _ _).mono ?_; rintro e w' ⟨rfl, rfl⟩)
        | (go_at_call 161; refine (l10Scale_any _ _).mono ?_; rintro e w' ⟨rfl, rfl⟩)
        | (go_at_call 69; refine (l05Length_any _ _).mono ?_; rintro e w' ⟨rfl, rfl⟩)
        | (go_at_call 162; refine (l10Units_any _ _ _ _ _ _ g1 (by omega) (by omega) k2 h1 h2 h3 h4 h5 h6).mono ?_; rintro e w1 ⟨rfl, hb1⟩; have hB1 : Below w.heap.size w w1 := Below.trans (by repeat' (first | exact Below.refl _ _ | assumption | refine Below.alloc ?_ (by first | omega | (simp; done) | (simp; omega)) _ | refine Below.drew ?_ | refine Below.setCell ?_ (by first | omega | (simp; done) | (simp; omega)) _)) (hb1.mono (by first | omega | (simp; done) | (simp; omega))); have hz1 := hB1.size))
      go_ret2
      exact ⟨endTwo Hv.out, by repeat' (first | exact Below.refl _ _ | assumption | refine Below.alloc ?_ (by first | omega | (simp; done) | (simp; omega)) _ | refine Below.drew ?_ | refine Below.setCell ?_ (by first | omega | (simp; done) | (simp; omega)) _)⟩
    · have Hv := Lib.hid (show rUnits s l a b c = (0, 2) by rw [rUnits, if_pos h, if_neg h'])
      simp only [Bool.and_eq_true, not_and, Bool.not_eq_true] at h'
      by_cases e1 : errScaleB s = true
      · have e2 := h' e1
        clear h'
        go_enter Try.func114, Try.ntmps114
        go_wp2_with (first
          | (go_at_call 113; refine (sAreErrors_any _ _ _ _).mono ?_; rintro e w' ⟨rfl, rfl⟩)
          | (go_at_call 161; refine (l10Scale_any _ _).mono ?_; rintro e w' ⟨rfl, rfl⟩)
          | (go_at_call 69; refine (l05Length_any _ _).mono ?_; rintro e w' ⟨rfl, rfl⟩))
        go_ret2
        exact ⟨endTwo Hv.out, by repeat' (first | exact Below.refl _ _ | assumption | refine Below.alloc ?_ (by first | omega | (simp; done) | (simp; omega)) _ | refine Below.drew ?_ | refine Below.setCell ?_ (by first | omega | (simp; done) | (simp; omega)) _)⟩
      · clear h'
        go_enter Try.func114, Try.ntmps114
        go_wp2_with (first
          | (go_at_call 113; refine (sAreErrors_any _ _ _ _).mono ?_; rintro e w' ⟨rfl, rfl⟩)
          | (go_at_call 161; refine (l10Scale_any _ _).mono ?_; rintro e w' ⟨rfl, rfl⟩)
          | (go_at_call 69; refine (l05Length_any _ _).mono ?_; rintro e w' ⟨rfl, rfl⟩))
        go_ret2
        exact ⟨endTwo Hv.out, by repeat' (first | exact Below.refl _ _ | assumption | refine Below.alloc ?_ (by first | omega | (simp; done) | (simp; omega)) _ | refine Below.drew ?_ | refine Below.setCell ?_ (by first | omega | (simp; done) | (simp; omega)) _)⟩
  · have Hv := Lib.hid (show rUnits s l a b c = (0, 1) by rw [rUnits, if_neg h])
    go_enter Try.func114, Try.ntmps114
    go_wp2_with (go_at_call 113; refine (sAreErrors_any _ _ _ _).mono ?_; rintro e w' ⟨rfl, rfl⟩)
    go_ret2
    exact ⟨endTwo Hv.out, by repeat' (first | exact Below.refl _ _ | assumption | refine Below.alloc ?_ (by first | omega | (simp; done) | (simp; omega)) _ | refine Below.drew ?_ | refine Below.setCell ?_ (by first | omega | (simp; done) | (simp; omega)) _)⟩
end Go.Proofs.Ythnjiiodpjielaa
