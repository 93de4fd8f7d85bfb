/- Walks of LengthFor, and of the laws on ScaleErrors and LengthFor (layer 10). No condition. -/
import Derived.Test.YtdbhlichldcnfaaErr3
namespace Go.Proofs.Ytdbhlichldcnfaa
open Go.RowKit
set_option linter.unusedVariables false


def lenOf (s a b c u : Int) : Int := max 1 (ceilDiv ((2 * a + b + c) * 1048576 * decades s) u)
def rLength (s a b c u : Int) : Int × Int :=
  if areErrorsB a b c = true then (if (errScaleB s && inB u 1 1048576) = true then (if 100000 < lenOf s a b c u then (0, 4) else (lenOf s a b c u, 0)) else (0, 2)) else (0, 1)
set_option maxHeartbeats 400000 in
theorem lengthFor_any (s a b c u : Int) (w : World) (g1 : 0 ≤ s) (g2 : s ≤ 5) (k1 : 1 ≤ u) (k2 : u ≤ 1048576) (h1 : 0 ≤ a) (h2 : a ≤ 200) (h3 : 0 ≤ b) (h4 : b ≤ 200) (h5 : 0 ≤ c) (h6 : c ≤ 200) :
    Calls Try.prog 64 #[.int .i64 s, .agg #[.int .i64 a, .int .i64 b, .int .i64 c], .int .i64 u] w fun e w' => e = .returned (.tuple #[.int .i64 (lenOf s a b c u), .bool (decide (lenOf s a b c u ≤ 100000))]) ∧ Below w.heap.size w w' := by
  have hn := errNeed_bd (s := s) h1 h2 h3 h4 h5 h6
  go_enter Try.func64, Try.ntmps64
  go_wp2_with (first
    | (go_at_call 59; refine (totalError_any _ _ _ _ h1 h2 h3 h4 h5 h6).mono ?_; rintro e w' ⟨rfl, rfl⟩)
    | (go_at_call 75; refine (decadesOf_any _ _ g1 g2).mono ?_; rintro e w' ⟨rfl, rfl⟩)
    | (go_at_call 97; refine (up_any _ _ _ k1 (by omega) (by omega) (by omega)).mono ?_; rintro e w' ⟨rfl, rfl⟩))
  all_goals
    have hl : lenOf s a b c u = max 1 (ceilDiv ((2 * a + b + c) * 1048576 * decades s) u) := rfl
    refine bodyPost_ret (v := .tuple #[.int .i64 (lenOf s a b c u), .bool (decide (lenOf s a b c u ≤ 100000))]) ?_ rfl ⟨rfl, by repeat' (first | exact Below.refl _ _ | assumption | refine Below.alloc ?_ (by first | omega | (simp; done) | (simp; omega)) _ | refine Below.drew ?_ | refine Below.setCell ?_ (by first | omega | (simp; done) | (simp; omega)) _)⟩
    rw [hl]
    first
      | rw [Int.max_eq_left (by omega)]
      | rw [Int.max_eq_right (by omega)]
    simp [results, Try.results64, go_sem]
set_option maxHeartbeats 400000 in
theorem iLengthFor_any (s a b c u : Int) (w : World) :
    Calls Try.prog 15 #[.int .i64 s, .agg #[.int .i64 a, .int .i64 b, .int .i64 c], .int .i64 u] w fun e w' => e = .returned (.tuple #[.int .i64 (rLength s a b c u).1, .int .i64 (rLength s a b c u).2]) ∧ Below w.heap.size w w' := by
  have i1 : inB 1 1 100000 = true := by decide
  by_cases h : areErrorsB a b c = true
  · obtain ⟨⟨h1, h2⟩, ⟨h3, h4⟩, h5, h6⟩ := areErrorsB_iff.1 h
    have hn := errNeed_bd (s := s) h1 h2 h3 h4 h5 h6
    by_cases e1 : errScaleB s = true
    · by_cases e2 : inB u 1 1048576 = true
      · obtain ⟨g1, g2⟩ := errScaleB_iff.1 e1
        obtain ⟨k1, k2⟩ := inB_iff.1 e2
        have e12 : (errScaleB s && inB u 1 1048576) = true := by simp [e1, e2]
        have hl := Lib.hid (show lenOf s a b c u = max 1 (ceilDiv ((2 * a + b + c) * 1048576 * decades s) u) from rfl)
        by_cases h' : 100000 < lenOf s a b c u
        · have Hv := Lib.hid (show rLength s a b c u = (0, 4) by rw [rLength, if_pos h, if_pos e12, if_pos h'])
          have d1 : decide (lenOf s a b c u ≤ 100000) = false := by simp; omega
          clear e12
          go_enter Try.func15, Try.ntmps15
          go_wp2_with (first
            | (go_at_call 17; refine (iAreErrors_any _ _ _ _).mono ?_; rintro e w' ⟨rfl, rfl⟩)
            | (go_at_call 53; refine (isErrorScale_any _ _ _).mono ?_; rintro e w' ⟨rfl, rfl⟩)
            | (go_at_call 63; refine (within_any _ _ _ _).mono ?_; rintro e w' ⟨rfl, rfl⟩)
            | (go_at_call 64; refine (lengthFor_any _ _ _ _ _ _ g1 (by omega) k1 k2 h1 h2 h3 h4 h5 h6).mono ?_; rintro e w1 ⟨rfl, hb1⟩; have hB1 : Below w.heap.size w w1 := Below.trans (by repeat' (first | exact Below.refl _ _ | assumption | refine Below.alloc ?_ (by first | omega | (simp; done) | (simp; omega)) _ | refine Below.drew ?_ | refine Below.setCell ?_ (by first | omega | (simp; done) | (simp; omega)) _)) (hb1.mono (by first | omega | (simp; done) | (simp; omega))); have hz1 := hB1.size))
          go_ret2
          exact ⟨endTwo Hv.out, by repeat' (first | exact Below.refl _ _ | assumption | refine Below.alloc ?_ (by first | omega | (simp; done) | (simp; omega)) _ | refine Below.drew ?_ | refine Below.setCell ?_ (by first | omega | (simp; done) | (simp; omega)) _)⟩
        · have Hv := Lib.hid (show rLength s a b c u = (lenOf s a b c u, 0) by rw [rLength, if_pos h, if_pos e12, if_neg h'])
          have d1 : decide (lenOf s a b c u ≤ 100000) = true := by simp; omega
          clear e12
          go_enter Try.func15, Try.ntmps15
          go_wp2_with (first
            | (go_at_call 17; refine (iAreErrors_any _ _ _ _).mono ?_; rintro e w' ⟨rfl, rfl⟩)
            | (go_at_call 53; refine (isErrorScale_any _ _ _).mono ?_; rintro e w' ⟨rfl, rfl⟩)
            | (go_at_call 63; refine (within_any _ _ _ _).mono ?_; rintro e w' ⟨rfl, rfl⟩)
            | (go_at_call 64; refine (lengthFor_any _ _ _ _ _ _ g1 (by omega) k1 k2 h1 h2 h3 h4 h5 h6).mono ?_; rintro e w1 ⟨rfl, hb1⟩; have hB1 : Below w.heap.size w w1 := Below.trans (by repeat' (first | exact Below.refl _ _ | assumption | refine Below.alloc ?_ (by first | omega | (simp; done) | (simp; omega)) _ | refine Below.drew ?_ | refine Below.setCell ?_ (by first | omega | (simp; done) | (simp; omega)) _)) (hb1.mono (by first | omega | (simp; done) | (simp; omega))); have hz1 := hB1.size))
          go_ret2
          exact ⟨endTwo Hv.out, by repeat' (first | exact Below.refl _ _ | assumption | refine Below.alloc ?_ (by first | omega | (simp; done) | (simp; omega)) _ | refine Below.drew ?_ | refine Below.setCell ?_ (by first | omega | (simp; done) | (simp; omega)) _)⟩
      · have Hv := Lib.hid (show rLength s a b c u = (0, 2) by rw [rLength, if_pos h, if_neg (by simp [e1, e2])])
        go_enter Try.func15, Try.ntmps15
        go_wp2_with (first
          | (go_at_call 17; refine (iAreErrors_any _ _ _ _).mono ?_; rintro e w' ⟨rfl, rfl⟩)
          | (go_at_call 53; refine (isErrorScale_any _ _ _).mono ?_; rintro e w' ⟨rfl, rfl⟩)
          | (go_at_call 63; refine (within_any _ _ _ _).mono ?_; rintro e w' ⟨rfl, rfl⟩))
        go_ret2
        exact ⟨endTwo Hv.out, by repeat' (first | exact Below.refl _ _ | assumption | refine Below.alloc ?_ (by first | omega | (simp; done) | (simp; omega)) _ | refine Below.drew ?_ | refine Below.setCell ?_ (by first | omega | (simp; done) | (simp; omega)) _)⟩
    · have Hv := Lib.hid (show rLength s a b c u = (0, 2) by rw [rLength, if_pos h, if_neg (by simp [e1])])
      go_enter Try.func15, Try.ntmps15
      go_wp2_with (first
        | (go_at_call 17; refine (iAreErrors_any _ _ _ _).mono ?_; rintro e w' ⟨rfl, rfl⟩)
        | (go_at_call 53; refine (isErrorScale_any _ _ _).mono ?_; rintro e w' ⟨rfl, rfl⟩)
        | (go_at_call 63; refine (within_any _ _ _ _).mono ?_; rintro e w' ⟨rfl, rfl⟩))
      go_ret2
      exact ⟨endTwo Hv.out, by repeat' (first | exact Below.refl _ _ | assumption | refine Below.alloc ?_ (by first | omega | (simp; done) | (simp; omega)) _ | refine Below.drew ?_ | refine Below.setCell ?_ (by first | omega | (simp; done) | (simp; omega)) _)⟩
  · have Hv := Lib.hid (show rLength s a b c u = (0, 1) by rw [rLength, if_neg h])
    go_enter Try.func15, Try.ntmps15
    go_wp2_with (first
      | (go_at_call 17; refine (iAreErrors_any _ _ _ _).mono ?_; rintro e w' ⟨rfl, rfl⟩))
    go_ret2
    exact ⟨endTwo Hv.out, by repeat' (first | exact Below.refl _ _ | assumption | refine Below.alloc ?_ (by first | omega | (simp; done) | (simp; omega)) _ | refine Below.drew ?_ | refine Below.setCell ?_ (by first | omega | (simp; done) | (simp; omega)) _)⟩
set_option maxHeartbeats 400000 in
theorem sLengthFor_any (s a b c u : Int) (w : World) :
    Calls Try.prog 16 #[.int .i64 s, .agg #[.int .i64 a, .int .i64 b, .int .i64 c], .int .i64 u] w fun e w' => e = .returned (.tuple #[.int .i64 (rLength s a b c u).1, .int .i64 (rLength s a b c u).2]) ∧ Below w.heap.size w w' := by
  have i1 : inB 1 1 100000 = true := by decide
  by_cases h : areErrorsB a b c = true
  · obtain ⟨⟨h1, h2⟩, ⟨h3, h4⟩, h5, h6⟩ := areErrorsB_iff.1 h
    have hn := errNeed_bd (s := s) h1 h2 h3 h4 h5 h6
    by_cases e1 : errScaleB s = true
    · by_cases e2 : inB u 1 1048576 = true
      · obtain ⟨g1, g2⟩ := errScaleB_iff.1 e1
        obtain ⟨k1, k2⟩ := inB_iff.1 e2
        have e12 : (errScaleB s && inB u 1 1048576) = true := by simp [e1, e2]
        have hl := Lib.hid (show lenOf s a b c u = max 1 (ceilDiv ((2 * a + b + c) * 1048576 * decades s) u) from rfl)
        by_cases h' : 100000 < lenOf s a b c u
        · have Hv := Lib.hid (show rLength s a b c u = (0, 4) by rw [rLength, if_pos h, if_pos e12, if_pos h'])
          have d1 : decide (lenOf s a b c u ≤ 100000) = false := by simp; omega
          clear e12
          go_enter Try.func16, Try.ntmps16
          go_wp2_with (first
            | (go_at_call 55; refine (sAreErrors_any _ _ _ _).mono ?_; rintro e w' ⟨rfl, rfl⟩)
            | (go_at_call 56; refine (l10Scale_any _ _).mono ?_; rintro e w' ⟨rfl, rfl⟩)
            | (go_at_call 65; refine (l01In_any _ _ _ _).mono ?_; rintro e w' ⟨rfl, rfl⟩)
            | (go_at_call 60; refine (l10Total_any _ _ _ _ h1 h2 h3 h4 h5 h6).mono ?_; rintro e w' ⟨rfl, rfl⟩)
            | (go_at_call 67; refine (l05Decades_any _ _).mono ?_; rintro e w' ⟨rfl, rfl⟩)
            | (go_at_call 66; refine (l01Ceil_any _ _ _ k1 (by omega) (by omega) (by omega)).mono ?_; rintro e w' ⟨rfl, rfl⟩))
          all_goals have hl' := hl.out
          all_goals first
            | (exfalso; omega)
            | (go_ret2; exact ⟨endTwo Hv.out, by repeat' (first | exact Below.refl _ _ | assumption | refine Below.alloc ?_ (by first | omega | (simp; done) | (simp; omega)) _ | refine Below.drew ?_ | refine Below.setCell ?_ (by first | omega | (simp; done) | (simp; omega)) _)⟩)
        · have Hv := Lib.hid (show rLength s a b c u = (lenOf s a b c u, 0) by rw [rLength, if_pos h, if_pos e12, if_neg h'])
          have d1 : decide (lenOf s a b c u ≤ 100000) = true := by simp; omega
          clear e12
          go_enter Try.func16, Try.ntmps16
          go_wp2_with (first
            | (go_at_call 55; refine (sAreErrors_any _ _ _ _).mono ?_; rintro e w' ⟨rfl, rfl⟩)
            | (go_at_call 56; refine (l10Scale_any _ _).mono ?_; rintro e w' ⟨rfl, rfl⟩)
            | (go_at_call 65; refine (l01In_any _ _ _ _).mono ?_; rintro e w' ⟨rfl, rfl⟩)
            | (go_at_call 60; refine (l10Total_any _ _ _ _ h1 h2 h3 h4 h5 h6).mono ?_; rintro e w' ⟨rfl, rfl⟩)
            | (go_at_call 67; refine (l05Decades_any _ _).mono ?_; rintro e w' ⟨rfl, rfl⟩)
            | (go_at_call 66; refine (l01Ceil_any _ _ _ k1 (by omega) (by omega) (by omega)).mono ?_; rintro e w' ⟨rfl, rfl⟩))
          all_goals have hl' := hl.out
          all_goals first
            | (exfalso; omega)
            | (go_ret2; exact ⟨endTwo (Hv.out.trans (by rw [hl']; first | rw [Int.max_eq_left (by omega)] | rw [Int.max_eq_right (by omega)])), by repeat' (first | exact Below.refl _ _ | assumption | refine Below.alloc ?_ (by first | omega | (simp; done) | (simp; omega)) _ | refine Below.drew ?_ | refine Below.setCell ?_ (by first | omega | (simp; done) | (simp; omega)) _)⟩)
      · have Hv := Lib.hid (show rLength s a b c u = (0, 2) by rw [rLength, if_pos h, if_neg (by simp [e1, e2])])
        go_enter Try.func16, Try.ntmps16
        go_wp2_with (first
          | (go_at_call 55; refine (sAreErrors_any _ _ _ _).mono ?_; rintro e w' ⟨rfl, rfl⟩)
          | (go_at_call 56; refine (l10Scale_any _ _).mono ?_; rintro e w' ⟨rfl, rfl⟩)
          | (go_at_call 65; refine (l01In_any _ _ _ _).mono ?_; rintro e w' ⟨rfl, rfl⟩))
        go_ret2
        exact ⟨endTwo Hv.out, by repeat' (first | exact Below.refl _ _ | assumption | refine Below.alloc ?_ (by first | omega | (simp; done) | (simp; omega)) _ | refine Below.drew ?_ | refine Below.setCell ?_ (by first | omega | (simp; done) | (simp; omega)) _)⟩
    · have Hv := Lib.hid (show rLength s a b c u = (0, 2) by rw [rLength, if_pos h, if_neg (by simp [e1])])
      go_enter Try.func16, Try.ntmps16
      go_wp2_with (first
        | (go_at_call 55; refine (sAreErrors_any _ _ _ _).mono ?_; rintro e w' ⟨rfl, rfl⟩)
        | (go_at_call 56; refine (l10Scale_any _ _).mono ?_; rintro e w' ⟨rfl, rfl⟩)
        | (go_at_call 65; refine (l01In_any _ _ _ _).mono ?_; rintro e w' ⟨rfl, rfl⟩))
      go_ret2
      exact ⟨endTwo Hv.out, by repeat' (first | exact Below.refl _ _ | assumption | refine Below.alloc ?_ (by first | omega | (simp; done) | (simp; omega)) _ | refine Below.drew ?_ | refine Below.setCell ?_ (by first | omega | (simp; done) | (simp; omega)) _)⟩
  · have Hv := Lib.hid (show rLength s a b c u = (0, 1) by rw [rLength, if_neg h])
    go_enter Try.func16, Try.ntmps16
    go_wp2_with (first
      | (go_at_call 55; refine (sAreErrors_any _ _ _ _).mono ?_; rintro e w' ⟨rfl, rfl⟩))
    go_ret2
    exact ⟨endTwo Hv.out, by repeat' (first | exact Below.refl _ _ | assumption | refine Below.alloc ?_ (by first | omega | (simp; done) | (simp; omega)) _ | refine Below.drew ?_ | refine Below.setCell ?_ (by first | omega | (simp; done) | (simp; omega)) _)⟩
end Go.Proofs.Ytdbhlichldcnfaa
