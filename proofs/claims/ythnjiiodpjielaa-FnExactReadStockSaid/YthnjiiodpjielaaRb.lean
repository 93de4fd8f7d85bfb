/- ReadingBound (layer 10) and its law. No condition. -/
import Derived.Test.YthnjiiodpjielaaSpd
import Derived.Test.YthnjiiodpjielaaRe
namespace Go.Proofs.Ythnjiiodpjielaa
open Go.RowKit
set_option linter.unusedVariables false
set_option linter.unusedSimpArgs false

theorem nOrd {n m : Int} (h : n ≤ m) : 10000 * nT n + nD n ≤ 10000 * nT m + nD m := by unfold nT nD; omega
theorem rSpan_ok {u v a b c d : Int} (huv : u ≤ v) (h : rSpan u v = ((a, b), (c, d), 0)) : figB a b = true ∧ figB c d = true ∧ 10000 * b + a ≤ 10000 * d + c := by
  unfold rSpan at h
  split at h
  · rename_i hu
    simp only [Bool.and_eq_true] at hu
    obtain ⟨u1, u2⟩ := inB_iff.1 hu.1
    obtain ⟨v1, v2⟩ := inB_iff.1 hu.2
    split at h
    · rename_i hf
      simp only [Bool.and_eq_true] at hf
      have ho := nOrd (span_le u1 u2 v1 v2 huv)
      simp only [Prod.mk.injEq] at h
      obtain ⟨⟨h1, h2⟩, ⟨h3, h4⟩, -⟩ := h
      rw [h1, h2] at hf ho
      rw [h3, h4] at hf ho
      exact ⟨hf.1, hf.2, ho⟩
    · simp at h
  · simp at h
theorem rSpread_ok {d t un a b c e : Int} (h : rSpread d t un = ((a, b), (c, e), 0)) : figB a b = true ∧ figB c e = true ∧ 10000 * b + a ≤ 10000 * e + c := by
  unfold rSpread at h
  split at h
  · rename_i hf
    split at h
    · rename_i hu
      obtain ⟨u1, u2⟩ := inB_iff.1 hu
      have hd := (figB_iff.1 hf).1
      have := dL_lt_dU hd
      exact rSpan_ok (by unfold fL fU; omega) h
    · simp at h
  · simp at h
def rBound (s len a b c d t : Int) : Int × Int :=
  if (figB d t && areErrorsB a b c) = true then (if (errScaleB s && inB len 1 100000) = true then
    (if (rSpread d t (errU s len a b c)).2.2 = 0 then rRel (rSpread d t (errU s len a b c)).2.1.1 (rSpread d t (errU s len a b c)).2.1.2 (rSpread d t (errU s len a b c)).1.1 (rSpread d t (errU s len a b c)).1.2 else (0, (rSpread d t (errU s len a b c)).2.2)) else (0, 2)) else (0, 1)
def cmpV (x y : Int) : Int := if x < y then -1 else if y < x then 1 else 0
theorem cmpV_ge {x y : Int} (h : y ≤ x) : 0 ≤ cmpV x y ∧ cmpV x y ≤ 1 := by unfold cmpV; split <;> (try split) <;> omega
set_option maxHeartbeats 400000 in
theorem l02Compare_ge (d t e z : Int) (w : World) (hd : figB d t = true) (he : figB e z = true) (h : 10000 * z + e ≤ 10000 * t + d) :
    Calls Try.prog 163 #[.agg #[.int .i64 d, .int .i64 t], .agg #[.int .i64 e, .int .i64 z]] w fun e' w' => e' = .returned (.int .i64 (cmpV (10000 * t + d) (10000 * z + e))) ∧ Below w.heap.size w w' := by
  obtain ⟨⟨d1, d2⟩, d3, d4⟩ := figB_iff.1 hd
  obtain ⟨⟨e1, e2⟩, e3, e4⟩ := figB_iff.1 he
  clear hd he
  have a0 : IntKind.i64.wrap (10000 * t) = 10000 * t := IntWalk.i64_in _ (by omega)
  have a1 : IntKind.i64.wrap (10000 * t + d) = 10000 * t + d := IntWalk.i64_in _ (by omega)
  have a2 : IntKind.i64.wrap (10000 * z) = 10000 * z := IntWalk.i64_in _ (by omega)
  have a3 : IntKind.i64.wrap (10000 * z + e) = 10000 * z + e := IntWalk.i64_in _ (by omega)
  have n1 : ¬ 10000 * t + d < 10000 * z + e := by omega
  by_cases g : 10000 * z + e < 10000 * t + d
  · have HV := Lib.hid (show cmpV (10000 * t + d) (10000 * z + e) = 1 by rw [cmpV, if_neg n1, if_pos g])
    have b1 : decide (10000 * t + d < 10000 * z + e) = false := by simpa using n1
    have b2 : decide (10000 * z + e < 10000 * t + d) = true := by simpa using g
    go_enter Try.func163, Try.ntmps163
    go_wp2_with fail
    go_quiet (fail)
    go_wp2_with fail
    go_ret
    exact ⟨endInt HV.out.symm, belowDraws (by repeat' (first | exact Below.refl _ _ | assumption | refine Below.alloc ?_ (by first | omega | (simp; done) | (simp; omega)) _ | refine Below.drew ?_ | refine Below.setCell ?_ (by first | omega | (simp; done) | (simp; omega)) _)) _⟩
  · have HV := Lib.hid (show cmpV (10000 * t + d) (10000 * z + e) = 0 by rw [cmpV, if_neg n1, if_neg g])
    have b1 : decide (10000 * t + d < 10000 * z + e) = false := by simpa using n1
    have b2 : decide (10000 * z + e < 10000 * t + d) = false := by simpa using g
    go_enter Try.func163, Try.ntmps163
    go_wp2_with fail
    go_quiet (fail)
    go_wp2_with fail
    go_ret
    exact ⟨endInt HV.out.symm, belowDraws (by repeat' (first | exact Below.refl _ _ | assumption | refine Below.alloc ?_ (by first | omega | (simp; done) | (simp; omega)) _ | refine Below.drew ?_ | refine Below.setCell ?_ (by first | omega | (simp; done) | (simp; omega)) _)) _⟩
set_option maxRecDepth 100000 in
set_option maxHeartbeats 2000000 in
theorem sSpanError_ok (d t e z : Int) (w : World) (hd : figB d t = true) (he : figB e z = true) (h : 10000 * t + d ≤ 10000 * z + e) :
    Calls Try.prog 115 #[.agg #[.int .i64 d, .int .i64 t], .agg #[.int .i64 e, .int .i64 z]] w fun e' w' => e' = .returned (.tuple #[.int .i64 (rRel e z d t).1, .int .i64 (rRel e z d t).2]) ∧ Below w.heap.size w w' := by
  have T := fun W => l02Two_ok d t e z W hd he
  have C := fun W => l02Compare_ge e z d t W he hd h
  have R := fun W => sRelativeError_ok e z d t W he hd
  obtain ⟨v1, v2⟩ := cmpV_ge h
  generalize cmpV (10000 * z + e) (10000 * t + d) = v at *
  generalize rRel e z d t = rr at *
  clear hd he h
  go_enter Try.func115, Try.ntmps115
  go_wp2_with (first
    | (go_at_call 149; refine (T _).mono ?_; rintro e w1 ⟨rfl, hb1⟩; have hB1 : Below w.heap.size w w1 := Below.trans (by repeat' (first | exact Below.refl _ _ | assumption | refine Below.alloc ?_ (by first | omega | (simp; done) | (simp; omega)) _ | refine Below.drew ?_ | refine Below.setCell ?_ (by first | omega | (simp; done) | (simp; omega)) _)) (hb1.mono (by first | omega | (simp; done) | (simp; omega))); have hz1 := hB1.size; have hl1_0 : w.heap.size < w1.heap.size := Nat.lt_of_lt_of_le (by first | omega | (simp; done) | (simp; omega)) hb1.size; have q1_00 : w1.cell? ⟨w.heap.size, 0, none⟩ = some (.int .i64 d) := (by rw [hb1.cell (by first | omega | (simp; done) | (simp; omega))]; simp [go_sem, *]); have r1_00 : w1.frozen? ⟨w.heap.size, 0, none⟩ = false := (by rw [hb1.frozen (by first | omega | (simp; done) | (simp; omega))]; simp [go_sem, *]); have q1_01 : w1.cell? ⟨w.heap.size, 1, none⟩ = some (.int .i64 t) := (by rw [hb1.cell (by first | omega | (simp; done) | (simp; omega))]; simp [go_sem, *]); have r1_01 : w1.frozen? ⟨w.heap.size, 1, none⟩ = false := (by rw [hb1.frozen (by first | omega | (simp; done) | (simp; omega))]; simp [go_sem, *]); have hl1_1 : (w.heap.size + 1) < w1.heap.size := Nat.lt_of_lt_of_le (by first | omega | (simp; done) | (simp; omega)) hb1.size; have q1_10 : w1.cell? ⟨(w.heap.size + 1), 0, none⟩ = some (.int .i64 e) := (by rw [hb1.cell (by first | omega | (simp; done) | (simp; omega))]; simp [go_sem, *]); have r1_10 : w1.frozen? ⟨(w.heap.size + 1), 0, none⟩ = false := (by rw [hb1.frozen (by first | omega | (simp; done) | (simp; omega))]; simp [go_sem, *]); have q1_11 : w1.cell? ⟨(w.heap.size + 1), 1, none⟩ = some (.int .i64 z) := (by rw [hb1.cell (by first | omega | (simp; done) | (simp; omega))]; simp [go_sem, *]); have r1_11 : w1.frozen? ⟨(w.heap.size + 1), 1, none⟩ = false := (by rw [hb1.frozen (by first | omega | (simp; done) | (simp; omega))]; simp [go_sem, *]); clear hb1)
    | (go_at_call 163; refine (C _).mono ?_; rintro e w2 ⟨rfl, hb2⟩; have hB2 : Below w.heap.size w w2 := Below.trans (by repeat' (first | exact Below.refl _ _ | assumption | refine Below.alloc ?_ (by first | omega | (simp; done) | (simp; omega)) _ | refine Below.drew ?_ | refine Below.setCell ?_ (by first | omega | (simp; done) | (simp; omega)) _)) (hb2.mono (by first | omega | (simp; done) | (simp; omega))); have hz2 := hB2.size; have hl2_0 : w.heap.size < w2.heap.size := Nat.lt_of_lt_of_le (by first | omega | (simp; done) | (simp; omega)) hb2.size; have q2_00 : w2.cell? ⟨w.heap.size, 0, none⟩ = some (.int .i64 d) := (by rw [hb2.cell (by first | omega | (simp; done) | (simp; omega))]; simp [go_sem, *]); have r2_00 : w2.frozen? ⟨w.heap.size, 0, none⟩ = false := (by rw [hb2.frozen (by first | omega | (simp; done) | (simp; omega))]; simp [go_sem, *]); have q2_01 : w2.cell? ⟨w.heap.size, 1, none⟩ = some (.int .i64 t) := (by rw [hb2.cell (by first | omega | (simp; done) | (simp; omega))]; simp [go_sem, *]); have r2_01 : w2.frozen? ⟨w.heap.size, 1, none⟩ = false := (by rw [hb2.frozen (by first | omega | (simp; done) | (simp; omega))]; simp [go_sem, *]); have hl2_1 : (w.heap.size + 1) < w2.heap.size := Nat.lt_of_lt_of_le (by first | omega | (simp; done) | (simp; omega)) hb2.size; have q2_10 : w2.cell? ⟨(w.heap.size + 1), 0, none⟩ = some (.int .i64 e) := (by rw [hb2.cell (by first | omega | (simp; done) | (simp; omega))]; simp [go_sem, *]); have r2_10 : w2.frozen? ⟨(w.heap.size + 1), 0, none⟩ = false := (by rw [hb2.frozen (by first | omega | (simp; done) | (simp; omega))]; simp [go_sem, *]); have q2_11 : w2.cell? ⟨(w.heap.size + 1), 1, none⟩ = some (.int .i64 z) := (by rw [hb2.cell (by first | omega | (simp; done) | (simp; omega))]; simp [go_sem, *]); have r2_11 : w2.frozen? ⟨(w.heap.size + 1), 1, none⟩ = false := (by rw [hb2.frozen (by first | omega | (simp; done) | (simp; omega))]; simp [go_sem, *]); clear hb2)
    | (go_at_call 102; refine (R _).mono ?_; rintro e w3 ⟨rfl, hb3⟩; have hB3 : Below w.heap.size w w3 := Below.trans (by repeat' (first | exact Below.refl _ _ | assumption | refine Below.alloc ?_ (by first | omega | (simp; done) | (simp; omega)) _ | refine Below.drew ?_ | refine Below.setCell ?_ (by first | omega | (simp; done) | (simp; omega)) _)) (hb3.mono (by first | omega | (simp; done) | (simp; omega))); have hz3 := hB3.size; clear hb3))
  go_ret2
  exact ⟨rfl, by repeat' (first | exact Below.refl _ _ | assumption | refine Below.alloc ?_ (by first | omega | (simp; done) | (simp; omega)) _ | refine Below.drew ?_ | refine Below.setCell ?_ (by first | omega | (simp; done) | (simp; omega)) _)⟩
set_option maxRecDepth 100000 in
set_option maxHeartbeats 4000000 in
theorem iReadingBound_any (s len a b c d t : Int) (w : World) :
    Calls Try.prog 45 #[.int .i64 s, .int .i64 len, .agg #[.int .i64 a, .int .i64 b, .int .i64 c], .agg #[.int .i64 d, .int .i64 t]] w fun e w' => e = .returned (.tuple #[.int .i64 (rBound s len a b c d t).1, .int .i64 (rBound s len a b c d t).2]) ∧ Below w.heap.size w w' := by
  have I1 := fun W => iIsFigure_any d t W
  by_cases g1 : figB d t = true
  · rw [g1] at I1
    by_cases g2 : areErrorsB a b c = true
    · by_cases g3 : (errScaleB s && inB len 1 100000) = true
      · have HV0 := Lib.hid (show rBound s len a b c d t = if (rSpread d t (errU s len a b c)).2.2 = 0 then rRel (rSpread d t (errU s len a b c)).2.1.1 (rSpread d t (errU s len a b c)).2.1.2 (rSpread d t (errU s len a b c)).1.1 (rSpread d t (errU s len a b c)).1.2 else (0, (rSpread d t (errU s len a b c)).2.2) by rw [rBound, if_pos (by rw [g1, g2]; rfl), if_pos g3])
        obtain ⟨⟨h1, h2⟩, ⟨h3, h4⟩, h5, h6⟩ := areErrorsB_iff.1 g2
        simp only [Bool.and_eq_true] at g3
        obtain ⟨e1, e2⟩ := g3
        obtain ⟨x1, x2⟩ := errScaleB_iff.1 e1
        obtain ⟨y1, y2⟩ := inB_iff.1 e2
        have U := fun W => errorUnits_any s len a b c W x1 (by omega) (by omega) y2 h1 h2 h3 h4 h5 h6
        have S := fun W => iSpreadFigure_any d t (errU s len a b c) W
        have OK := Lib.hid (fun (k1 k2 m1 m2 : Int) (h : rSpread d t (errU s len a b c) = ((k1, k2), (m1, m2), 0)) => rSpread_ok h)
        generalize hp : rSpread d t (errU s len a b c) = p at *
        clear hp
        obtain ⟨⟨k1, k2⟩, ⟨m1, m2⟩, z⟩ := p
        unfold end2F at S
        simp only at HV0 S
        generalize errU s len a b c = un at *
        go_enter Try.func45, Try.ntmps45
        go_upto_region 5 with (first
          | (go_at_call 104; (with_reducible refine (I1 _).mono ?_); rintro e w' ⟨rfl, rfl⟩)
          | (go_at_call 110; (with_reducible refine (iAreErrors_any _ _ _ _).mono ?_); rintro e w' ⟨rfl, rfl⟩)
          | (go_at_call 111; refine (isErrorScale_any _ _ _).mono ?_; rintro e w' ⟨rfl, rfl⟩))
        go_cut [10, 11, 12] (fun s10 s11 s12 wx => ∃ g h : Nat, s10 = .pointer (some ⟨g, 0, none⟩) ∧ s11 = .pointer (some ⟨h, 0, none⟩) ∧ s12 = .int .i64 z ∧
        wx.cell? ⟨g, 0, none⟩ = some (.int .i64 k1) ∧ wx.cell? ⟨g, 1, none⟩ = some (.int .i64 k2) ∧ wx.cell? ⟨h, 0, none⟩ = some (.int .i64 m1) ∧ wx.cell? ⟨h, 1, none⟩ = some (.int .i64 m2) ∧ Below w.heap.size w wx)
        case first =>
          have pn0 : w.heap.size ≠ w.heap.size + 1 + 1 + 1 + 1 := by omega
          have pm0 : w.heap.size + 1 + 1 + 1 + 1 ≠ w.heap.size := by omega
          have pn1 : w.heap.size ≠ w.heap.size + 1 + 1 + 1 + 1 + 1 := by omega
          have pm1 : w.heap.size + 1 + 1 + 1 + 1 + 1 ≠ w.heap.size := by omega
          have pn2 : w.heap.size + 1 ≠ w.heap.size + 1 + 1 + 1 + 1 := by omega
          have pm2 : w.heap.size + 1 + 1 + 1 + 1 ≠ w.heap.size + 1 := by omega
          have pn3 : w.heap.size + 1 ≠ w.heap.size + 1 + 1 + 1 + 1 + 1 := by omega
          have pm3 : w.heap.size + 1 + 1 + 1 + 1 + 1 ≠ w.heap.size + 1 := by omega
          go_region_held3 (fun w' => w'.cell? ⟨w.heap.size, 0, none⟩ = some (.int .i64 a) ∧ w'.cell? ⟨w.heap.size, 1, none⟩ = some (.int .i64 b) ∧ w'.cell? ⟨w.heap.size, 2, none⟩ = some (.int .i64 c) ∧ w'.cell? ⟨w.heap.size + 1, 0, none⟩ = some (.int .i64 d) ∧ w'.cell? ⟨w.heap.size + 1, 1, none⟩ = some (.int .i64 t)) (first | (go_keep; done) | (refine ⟨?_, ?_, ?_, ?_, ?_⟩ <;> (simp [go_sem, *]; done))) (first
            | (go_at_call 112; (with_reducible refine (U _).mono ?_); rintro e w1 ⟨rfl, hb1⟩; have hB1 : Below w.heap.size w w1 := Below.trans (by repeat' (first | exact Below.refl _ _ | assumption | refine Below.alloc ?_ (by first | omega | (simp; done) | (simp; omega)) _ | refine Below.drew ?_ | refine Below.setCell ?_ (by first | omega | (simp; done) | (simp; omega)) _)) (hb1.mono (by first | omega | (simp; done) | (simp; omega))); have hz1 := hB1.size; have hl1_0 : w.heap.size < w1.heap.size := Nat.lt_of_lt_of_le (by first | omega | (simp; done) | (simp; omega)) hb1.size; have q1_00 : w1.cell? ⟨w.heap.size, 0, none⟩ = some (.int .i64 a) := (by rw [hb1.cell (by first | omega | (simp; done) | (simp; omega))]; simp [go_sem, *]); have r1_00 : w1.frozen? ⟨w.heap.size, 0, none⟩ = false := (by rw [hb1.frozen (by first | omega | (simp; done) | (simp; omega))]; simp [go_sem, *]); have q1_01 : w1.cell? ⟨w.heap.size, 1, none⟩ = some (.int .i64 b) := (by rw [hb1.cell (by first | omega | (simp; done) | (simp; omega))]; simp [go_sem, *]); have r1_01 : w1.frozen? ⟨w.heap.size, 1, none⟩ = false := (by rw [hb1.frozen (by first | omega | (simp; done) | (simp; omega))]; simp [go_sem, *]); have q1_02 : w1.cell? ⟨w.heap.size, 2, none⟩ = some (.int .i64 c) := (by rw [hb1.cell (by first | omega | (simp; done) | (simp; omega))]; simp [go_sem, *]); have r1_02 : w1.frozen? ⟨w.heap.size, 2, none⟩ = false := (by rw [hb1.frozen (by first | omega | (simp; done) | (simp; omega))]; simp [go_sem, *]); have hl1_1 : (w.heap.size + 1) < w1.heap.size := Nat.lt_of_lt_of_le (by first | omega | (simp; done) | (simp; omega)) hb1.size; have q1_10 : w1.cell? ⟨(w.heap.size + 1), 0, none⟩ = some (.int .i64 d) := (by rw [hb1.cell (by first | omega | (simp; done) | (simp; omega))]; simp [go_sem, *]); have r1_10 : w1.frozen? ⟨(w.heap.size + 1), 0, none⟩ = false := (by rw [hb1.frozen (by first | omega | (simp; done) | (simp; omega))]; simp [go_sem, *]); have q1_11 : w1.cell? ⟨(w.heap.size + 1), 1, none⟩ = some (.int .i64 t) := (by rw [hb1.cell (by first | omega | (simp; done) | (simp; omega))]; simp [go_sem, *]); have r1_11 : w1.frozen? ⟨(w.heap.size + 1), 1, none⟩ = false := (by rw [hb1.frozen (by first | omega | (simp; done) | (simp; omega))]; simp [go_sem, *]); (try (refine (fun (hm1_0 : (w.heap.size + 1 + 1 + 1 + 1) < w1.heap.size) => ?_) ?_; rotate_left; refine Nat.lt_of_lt_of_le ?_ hb1.size; (focus (first | omega | (simp; done) | (simp; omega))); refine (fun (mq1_00 : w1.cell? ⟨(w.heap.size + 1 + 1 + 1 + 1), 0, none⟩ = some (.int .i64 0)) => ?_) ?_; rotate_left; refine (hb1.cell ?_).trans ?_; (focus (first | omega | (simp; done) | (simp; omega))); (focus (simp [go_sem, *]; done)); refine (fun (mr1_00 : w1.frozen? ⟨(w.heap.size + 1 + 1 + 1 + 1), 0, none⟩ = false) => ?_) ?_; rotate_left; refine (hb1.frozen ?_).trans ?_; (focus (first | omega | (simp; done) | (simp; omega))); (focus (simp [go_sem, *]; done)); refine (fun (mq1_01 : w1.cell? ⟨(w.heap.size + 1 + 1 + 1 + 1), 1, none⟩ = some (.int .i64 0)) => ?_) ?_; rotate_left; refine (hb1.cell ?_).trans ?_; (focus (first | omega | (simp; done) | (simp; omega))); (focus (simp [go_sem, *]; done)); refine (fun (mr1_01 : w1.frozen? ⟨(w.heap.size + 1 + 1 + 1 + 1), 1, none⟩ = false) => ?_) ?_; rotate_left; refine (hb1.frozen ?_).trans ?_; (focus (first | omega | (simp; done) | (simp; omega))); (focus (simp [go_sem, *]; done)))); (try (refine (fun (hm1_1 : (w.heap.size + 1 + 1 + 1 + 1 + 1) < w1.heap.size) => ?_) ?_; rotate_left; refine Nat.lt_of_lt_of_le ?_ hb1.size; (focus (first | omega | (simp; done) | (simp; omega))); refine (fun (mq1_10 : w1.cell? ⟨(w.heap.size + 1 + 1 + 1 + 1 + 1), 0, none⟩ = some (.int .i64 0)) => ?_) ?_; rotate_left; refine (hb1.cell ?_).trans ?_; (focus (first | omega | (simp; done) | (simp; omega))); (focus (simp [go_sem, *]; done)); refine (fun (mr1_10 : w1.frozen? ⟨(w.heap.size + 1 + 1 + 1 + 1 + 1), 0, none⟩ = false) => ?_) ?_; rotate_left; refine (hb1.frozen ?_).trans ?_; (focus (first | omega | (simp; done) | (simp; omega))); (focus (simp [go_sem, *]; done)); refine (fun (mq1_11 : w1.cell? ⟨(w.heap.size + 1 + 1 + 1 + 1 + 1), 1, none⟩ = some (.int .i64 0)) => ?_) ?_; rotate_left; refine (hb1.cell ?_).trans ?_; (focus (first | omega | (simp; done) | (simp; omega))); (focus (simp [go_sem, *]; done)); refine (fun (mr1_11 : w1.frozen? ⟨(w.heap.size + 1 + 1 + 1 + 1 + 1), 1, none⟩ = false) => ?_) ?_; rotate_left; refine (hb1.frozen ?_).trans ?_; (focus (first | omega | (simp; done) | (simp; omega))); (focus (simp [go_sem, *]; done)))); (try (refine (fun (nx1_0 : w.heap.size ≠ w1.heap.size) => ?_) ?_; rotate_left; omega; refine (fun (ny1_0 : w1.heap.size ≠ w.heap.size) => ?_) ?_; rotate_left; omega)); (try (refine (fun (nx1_1 : w.heap.size ≠ w1.heap.size + 1) => ?_) ?_; rotate_left; omega; refine (fun (ny1_1 : w1.heap.size + 1 ≠ w.heap.size) => ?_) ?_; rotate_left; omega)); (try (refine (fun (nx1_2 : w.heap.size + 1 ≠ w1.heap.size) => ?_) ?_; rotate_left; omega; refine (fun (ny1_2 : w1.heap.size ≠ w.heap.size + 1) => ?_) ?_; rotate_left; omega)); (try (refine (fun (nx1_3 : w.heap.size + 1 ≠ w1.heap.size + 1) => ?_) ?_; rotate_left; omega; refine (fun (ny1_3 : w1.heap.size + 1 ≠ w.heap.size + 1) => ?_) ?_; rotate_left; omega)); (try (refine (fun (nx1_4 : w.heap.size + 1 + 1 + 1 + 1 ≠ w1.heap.size) => ?_) ?_; rotate_left; omega; refine (fun (ny1_4 : w1.heap.size ≠ w.heap.size + 1 + 1 + 1 + 1) => ?_) ?_; rotate_left; omega)); (try (refine (fun (nx1_5 : w.heap.size + 1 + 1 + 1 + 1 ≠ w1.heap.size + 1) => ?_) ?_; rotate_left; omega; refine (fun (ny1_5 : w1.heap.size + 1 ≠ w.heap.size + 1 + 1 + 1 + 1) => ?_) ?_; rotate_left; omega)); (try (refine (fun (nx1_6 : w.heap.size + 1 + 1 + 1 + 1 + 1 ≠ w1.heap.size) => ?_) ?_; rotate_left; omega; refine (fun (ny1_6 : w1.heap.size ≠ w.heap.size + 1 + 1 + 1 + 1 + 1) => ?_) ?_; rotate_left; omega)); (try (refine (fun (nx1_7 : w.heap.size + 1 + 1 + 1 + 1 + 1 ≠ w1.heap.size + 1) => ?_) ?_; rotate_left; omega; refine (fun (ny1_7 : w1.heap.size + 1 ≠ w.heap.size + 1 + 1 + 1 + 1 + 1) => ?_) ?_; rotate_left; omega)); clear hb1)
            | (go_at_call 42; (with_reducible refine (S _).mono ?_); rintro e w2 ⟨rfl, hb2⟩; have hB2 : Below w.heap.size w w2 := Below.trans (by repeat' (first | exact Below.refl _ _ | assumption | refine Below.alloc ?_ (by first | omega | (simp; done) | (simp; omega)) _ | refine Below.drew ?_ | refine Below.setCell ?_ (by first | omega | (simp; done) | (simp; omega)) _)) (hb2.mono (by first | omega | (simp; done) | (simp; omega))); have hz2 := hB2.size; have hl2_0 : w.heap.size < w2.heap.size := Nat.lt_of_lt_of_le (by first | omega | (simp; done) | (simp; omega)) hb2.size; have q2_00 : w2.cell? ⟨w.heap.size, 0, none⟩ = some (.int .i64 a) := (by rw [hb2.cell (by first | omega | (simp; done) | (simp; omega))]; simp [go_sem, *]); have r2_00 : w2.frozen? ⟨w.heap.size, 0, none⟩ = false := (by rw [hb2.frozen (by first | omega | (simp; done) | (simp; omega))]; simp [go_sem, *]); have q2_01 : w2.cell? ⟨w.heap.size, 1, none⟩ = some (.int .i64 b) := (by rw [hb2.cell (by first | omega | (simp; done) | (simp; omega))]; simp [go_sem, *]); have r2_01 : w2.frozen? ⟨w.heap.size, 1, none⟩ = false := (by rw [hb2.frozen (by first | omega | (simp; done) | (simp; omega))]; simp [go_sem, *]); have q2_02 : w2.cell? ⟨w.heap.size, 2, none⟩ = some (.int .i64 c) := (by rw [hb2.cell (by first | omega | (simp; done) | (simp; omega))]; simp [go_sem, *]); have r2_02 : w2.frozen? ⟨w.heap.size, 2, none⟩ = false := (by rw [hb2.frozen (by first | omega | (simp; done) | (simp; omega))]; simp [go_sem, *]); have hl2_1 : (w.heap.size + 1) < w2.heap.size := Nat.lt_of_lt_of_le (by first | omega | (simp; done) | (simp; omega)) hb2.size; have q2_10 : w2.cell? ⟨(w.heap.size + 1), 0, none⟩ = some (.int .i64 d) := (by rw [hb2.cell (by first | omega | (simp; done) | (simp; omega))]; simp [go_sem, *]); have r2_10 : w2.frozen? ⟨(w.heap.size + 1), 0, none⟩ = false := (by rw [hb2.frozen (by first | omega | (simp; done) | (simp; omega))]; simp [go_sem, *]); have q2_11 : w2.cell? ⟨(w.heap.size + 1), 1, none⟩ = some (.int .i64 t) := (by rw [hb2.cell (by first | omega | (simp; done) | (simp; omega))]; simp [go_sem, *]); have r2_11 : w2.frozen? ⟨(w.heap.size + 1), 1, none⟩ = false := (by rw [hb2.frozen (by first | omega | (simp; done) | (simp; omega))]; simp [go_sem, *]); (try (refine (fun (hm2_0 : (w.heap.size + 1 + 1 + 1 + 1) < w2.heap.size) => ?_) ?_; rotate_left; refine Nat.lt_of_lt_of_le ?_ hb2.size; (focus (first | omega | (simp; done) | (simp; omega))); refine (fun (mq2_00 : w2.cell? ⟨(w.heap.size + 1 + 1 + 1 + 1), 0, none⟩ = some (.int .i64 0)) => ?_) ?_; rotate_left; refine (hb2.cell ?_).trans ?_; (focus (first | omega | (simp; done) | (simp; omega))); (focus (simp [go_sem, *]; done)); refine (fun (mr2_00 : w2.frozen? ⟨(w.heap.size + 1 + 1 + 1 + 1), 0, none⟩ = false) => ?_) ?_; rotate_left; refine (hb2.frozen ?_).trans ?_; (focus (first | omega | (simp; done) | (simp; omega))); (focus (simp [go_sem, *]; done)); refine (fun (mq2_01 : w2.cell? ⟨(w.heap.size + 1 + 1 + 1 + 1), 1, none⟩ = some (.int .i64 0)) => ?_) ?_; rotate_left; refine (hb2.cell ?_).trans ?_; (focus (first | omega | (simp; done) | (simp; omega))); (focus (simp [go_sem, *]; done)); refine (fun (mr2_01 : w2.frozen? ⟨(w.heap.size + 1 + 1 + 1 + 1), 1, none⟩ = false) => ?_) ?_; rotate_left; refine (hb2.frozen ?_).trans ?_; (focus (first | omega | (simp; done) | (simp; omega))); (focus (simp [go_sem, *]; done)))); (try (refine (fun (hm2_1 : (w.heap.size + 1 + 1 + 1 + 1 + 1) < w2.heap.size) => ?_) ?_; rotate_left; refine Nat.lt_of_lt_of_le ?_ hb2.size; (focus (first | omega | (simp; done) | (simp; omega))); refine (fun (mq2_10 : w2.cell? ⟨(w.heap.size + 1 + 1 + 1 + 1 + 1), 0, none⟩ = some (.int .i64 0)) => ?_) ?_; rotate_left; refine (hb2.cell ?_).trans ?_; (focus (first | omega | (simp; done) | (simp; omega))); (focus (simp [go_sem, *]; done)); refine (fun (mr2_10 : w2.frozen? ⟨(w.heap.size + 1 + 1 + 1 + 1 + 1), 0, none⟩ = false) => ?_) ?_; rotate_left; refine (hb2.frozen ?_).trans ?_; (focus (first | omega | (simp; done) | (simp; omega))); (focus (simp [go_sem, *]; done)); refine (fun (mq2_11 : w2.cell? ⟨(w.heap.size + 1 + 1 + 1 + 1 + 1), 1, none⟩ = some (.int .i64 0)) => ?_) ?_; rotate_left; refine (hb2.cell ?_).trans ?_; (focus (first | omega | (simp; done) | (simp; omega))); (focus (simp [go_sem, *]; done)); refine (fun (mr2_11 : w2.frozen? ⟨(w.heap.size + 1 + 1 + 1 + 1 + 1), 1, none⟩ = false) => ?_) ?_; rotate_left; refine (hb2.frozen ?_).trans ?_; (focus (first | omega | (simp; done) | (simp; omega))); (focus (simp [go_sem, *]; done)))); (try (refine (fun (hm2_2 : w1.heap.size < w2.heap.size) => ?_) ?_; rotate_left; refine Nat.lt_of_lt_of_le ?_ hb2.size; (focus (first | omega | (simp; done) | (simp; omega))); refine (fun (mq2_20 : w2.cell? ⟨w1.heap.size, 0, none⟩ = some (.int .i64 0)) => ?_) ?_; rotate_left; refine (hb2.cell ?_).trans ?_; (focus (first | omega | (simp; done) | (simp; omega))); (focus (simp [go_sem, *]; done)); refine (fun (mr2_20 : w2.frozen? ⟨w1.heap.size, 0, none⟩ = false) => ?_) ?_; rotate_left; refine (hb2.frozen ?_).trans ?_; (focus (first | omega | (simp; done) | (simp; omega))); (focus (simp [go_sem, *]; done)); refine (fun (mq2_21 : w2.cell? ⟨w1.heap.size, 1, none⟩ = some (.int .i64 0)) => ?_) ?_; rotate_left; refine (hb2.cell ?_).trans ?_; (focus (first | omega | (simp; done) | (simp; omega))); (focus (simp [go_sem, *]; done)); refine (fun (mr2_21 : w2.frozen? ⟨w1.heap.size, 1, none⟩ = false) => ?_) ?_; rotate_left; refine (hb2.frozen ?_).trans ?_; (focus (first | omega | (simp; done) | (simp; omega))); (focus (simp [go_sem, *]; done)))); (try (refine (fun (hm2_3 : (w1.heap.size + 1) < w2.heap.size) => ?_) ?_; rotate_left; refine Nat.lt_of_lt_of_le ?_ hb2.size; (focus (first | omega | (simp; done) | (simp; omega))); refine (fun (mq2_30 : w2.cell? ⟨(w1.heap.size + 1), 0, none⟩ = some (.int .i64 0)) => ?_) ?_; rotate_left; refine (hb2.cell ?_).trans ?_; (focus (first | omega | (simp; done) | (simp; omega))); (focus (simp [go_sem, *]; done)); refine (fun (mr2_30 : w2.frozen? ⟨(w1.heap.size + 1), 0, none⟩ = false) => ?_) ?_; rotate_left; refine (hb2.frozen ?_).trans ?_; (focus (first | omega | (simp; done) | (simp; omega))); (focus (simp [go_sem, *]; done)); refine (fun (mq2_31 : w2.cell? ⟨(w1.heap.size + 1), 1, none⟩ = some (.int .i64 0)) => ?_) ?_; rotate_left; refine (hb2.cell ?_).trans ?_; (focus (first | omega | (simp; done) | (simp; omega))); (focus (simp [go_sem, *]; done)); refine (fun (mr2_31 : w2.frozen? ⟨(w1.heap.size + 1), 1, none⟩ = false) => ?_) ?_; rotate_left; refine (hb2.frozen ?_).trans ?_; (focus (first | omega | (simp; done) | (simp; omega))); (focus (simp [go_sem, *]; done)))); (try (refine (fun (nx2_0 : w.heap.size ≠ w2.heap.size) => ?_) ?_; rotate_left; omega; refine (fun (ny2_0 : w2.heap.size ≠ w.heap.size) => ?_) ?_; rotate_left; omega)); (try (refine (fun (nx2_1 : w.heap.size ≠ w2.heap.size + 1) => ?_) ?_; rotate_left; omega; refine (fun (ny2_1 : w2.heap.size + 1 ≠ w.heap.size) => ?_) ?_; rotate_left; omega)); (try (refine (fun (nx2_2 : w.heap.size + 1 ≠ w2.heap.size) => ?_) ?_; rotate_left; omega; refine (fun (ny2_2 : w2.heap.size ≠ w.heap.size + 1) => ?_) ?_; rotate_left; omega)); (try (refine (fun (nx2_3 : w.heap.size + 1 ≠ w2.heap.size + 1) => ?_) ?_; rotate_left; omega; refine (fun (ny2_3 : w2.heap.size + 1 ≠ w.heap.size + 1) => ?_) ?_; rotate_left; omega)); (try (refine (fun (nx2_4 : w.heap.size + 1 + 1 + 1 + 1 ≠ w2.heap.size) => ?_) ?_; rotate_left; omega; refine (fun (ny2_4 : w2.heap.size ≠ w.heap.size + 1 + 1 + 1 + 1) => ?_) ?_; rotate_left; omega)); (try (refine (fun (nx2_5 : w.heap.size + 1 + 1 + 1 + 1 ≠ w2.heap.size + 1) => ?_) ?_; rotate_left; omega; refine (fun (ny2_5 : w2.heap.size + 1 ≠ w.heap.size + 1 + 1 + 1 + 1) => ?_) ?_; rotate_left; omega)); (try (refine (fun (nx2_6 : w.heap.size + 1 + 1 + 1 + 1 + 1 ≠ w2.heap.size) => ?_) ?_; rotate_left; omega; refine (fun (ny2_6 : w2.heap.size ≠ w.heap.size + 1 + 1 + 1 + 1 + 1) => ?_) ?_; rotate_left; omega)); (try (refine (fun (nx2_7 : w.heap.size + 1 + 1 + 1 + 1 + 1 ≠ w2.heap.size + 1) => ?_) ?_; rotate_left; omega; refine (fun (ny2_7 : w2.heap.size + 1 ≠ w.heap.size + 1 + 1 + 1 + 1 + 1) => ?_) ?_; rotate_left; omega)); (try (refine (fun (nx2_8 : w1.heap.size ≠ w2.heap.size) => ?_) ?_; rotate_left; omega; refine (fun (ny2_8 : w2.heap.size ≠ w1.heap.size) => ?_) ?_; rotate_left; omega)); (try (refine (fun (nx2_9 : w1.heap.size ≠ w2.heap.size + 1) => ?_) ?_; rotate_left; omega; refine (fun (ny2_9 : w2.heap.size + 1 ≠ w1.heap.size) => ?_) ?_; rotate_left; omega)); (try (refine (fun (nx2_10 : w1.heap.size + 1 ≠ w2.heap.size) => ?_) ?_; rotate_left; omega; refine (fun (ny2_10 : w2.heap.size ≠ w1.heap.size + 1) => ?_) ?_; rotate_left; omega)); (try (refine (fun (nx2_11 : w1.heap.size + 1 ≠ w2.heap.size + 1) => ?_) ?_; rotate_left; omega; refine (fun (ny2_11 : w2.heap.size + 1 ≠ w1.heap.size + 1) => ?_) ?_; rotate_left; omega)); clear hb2))
          all_goals (go_wp2_with fail; go_meet; refine ⟨_, _, rfl, rfl, rfl, ?_, ?_, ?_, ?_, by repeat' (first | exact Below.refl _ _ | assumption | refine Below.alloc ?_ (by first | omega | (simp; done) | (simp; omega)) _ | refine Below.drew ?_ | refine Below.setCell ?_ (by first | omega | (simp; done) | (simp; omega)) _)⟩)
          all_goals (first | omega | (simp [go_sem, *]; done) | (simp; omega))
        case rest =>
          obtain ⟨bg, bh, rfl, rfl, rfl, c1, c2, c3, c4, B0⟩ := hcut
          by_cases hz : z = 0
          · subst hz
            obtain ⟨f1, f2, f3⟩ := OK.out k1 k2 m1 m2 rfl
            have R := fun W => relativeError_any m1 m2 k1 k2 W (figB_iff.1 f2).1 (figB_iff.1 f1).1 (by have := (figB_iff.1 f2).2; omega) (by have := (figB_iff.1 f2).2; omega) (by have := (figB_iff.1 f1).2; omega) (by have := (figB_iff.1 f1).2; omega)
            have HV := Lib.hid (HV0.out.trans (if_pos rfl))
            clear f1 f2 f3 OK HV0
            generalize rRel m1 m2 k1 k2 = rr at *
            go_wp2_with (first
              | (go_at_call 101; refine (R _).mono ?_; rintro e w3 ⟨rfl, hb3⟩; have hB3 : Below wc.heap.size wc w3 := Below.trans (by repeat' (first | exact Below.refl _ _ | assumption | refine Below.alloc ?_ (by first | omega | (simp; done) | (simp; omega)) _ | refine Below.drew ?_ | refine Below.setCell ?_ (by first | omega | (simp; done) | (simp; omega)) _)) (hb3.mono (by first | omega | (simp; done) | (simp; omega))); have hz3 := hB3.size; clear hb3))
            go_ret2
            exact ⟨endPr HV.out, B0.trans (hB3.mono B0.size)⟩
          · have HV := Lib.hid (HV0.out.trans (if_neg hz))
            have hz1 : (z != 0) = true := by simpa using hz
            clear OK HV0
            go_wp2_with fail
            go_ret2
            exact ⟨endTwo HV.out, by repeat' (first | exact Below.refl _ _ | assumption | refine Below.alloc ?_ (by first | omega | (simp; done) | (simp; omega)) _ | refine Below.drew ?_ | refine Below.setCell ?_ (by first | omega | (simp; done) | (simp; omega)) _)⟩
      · have HV := Lib.hid (show rBound s len a b c d t = (0, 2) by rw [rBound, if_pos (by rw [g1, g2]; rfl), if_neg g3])
        have g3' : (errScaleB s && inB len 1 100000) = false := by simpa using g3
        clear g3 g1
        have ES := fun W => isErrorScale_any s len W
        rw [g3'] at ES
        clear g3'
        go_enter Try.func45, Try.ntmps45
        go_wp2_with (first
          | (go_at_call 104; (with_reducible refine (I1 _).mono ?_); rintro e w' ⟨rfl, rfl⟩)
          | (go_at_call 110; (with_reducible refine (iAreErrors_any _ _ _ _).mono ?_); rintro e w' ⟨rfl, rfl⟩)
          | (go_at_call 111; refine (ES _).mono ?_; rintro e w' ⟨rfl, rfl⟩))
        go_ret2
        exact ⟨endTwo HV.out, by repeat' (first | exact Below.refl _ _ | assumption | refine Below.alloc ?_ (by first | omega | (simp; done) | (simp; omega)) _ | refine Below.drew ?_ | refine Below.setCell ?_ (by first | omega | (simp; done) | (simp; omega)) _)⟩
    · have HV := Lib.hid (show rBound s len a b c d t = (0, 1) by rw [rBound, if_neg (by simp [g2])])
      have g2' : areErrorsB a b c = false := by simpa using g2
      clear g2 g1
      go_enter Try.func45, Try.ntmps45
      go_wp2_with (first
        | (go_at_call 104; (with_reducible refine (I1 _).mono ?_); rintro e w' ⟨rfl, rfl⟩)
        | (go_at_call 110; (with_reducible refine (iAreErrors_any _ _ _ _).mono ?_); rintro e w' ⟨rfl, rfl⟩))
      go_ret2
      exact ⟨endTwo HV.out, by repeat' (first | exact Below.refl _ _ | assumption | refine Below.alloc ?_ (by first | omega | (simp; done) | (simp; omega)) _ | refine Below.drew ?_ | refine Below.setCell ?_ (by first | omega | (simp; done) | (simp; omega)) _)⟩
  · have HV := Lib.hid (show rBound s len a b c d t = (0, 1) by rw [rBound, if_neg (by simp [g1])])
    have g1' : figB d t = false := by simpa using g1
    rw [g1'] at I1
    clear g1 g1'
    go_enter Try.func45, Try.ntmps45
    go_wp2_with (first
      | (go_at_call 104; (with_reducible refine (I1 _).mono ?_); rintro e w' ⟨rfl, rfl⟩))
    go_ret2
    exact ⟨endTwo HV.out, by repeat' (first | exact Below.refl _ _ | assumption | refine Below.alloc ?_ (by first | omega | (simp; done) | (simp; omega)) _ | refine Below.drew ?_ | refine Below.setCell ?_ (by first | omega | (simp; done) | (simp; omega)) _)⟩
set_option maxRecDepth 100000 in
set_option maxHeartbeats 4000000 in
theorem sReadingBound_any (s len a b c d t : Int) (w : World) :
    Calls Try.prog 46 #[.int .i64 s, .int .i64 len, .agg #[.int .i64 a, .int .i64 b, .int .i64 c], .agg #[.int .i64 d, .int .i64 t]] w fun e w' => e = .returned (.tuple #[.int .i64 (rBound s len a b c d t).1, .int .i64 (rBound s len a b c d t).2]) ∧ Below w.heap.size w w' := by
  have I1 := fun W => sIsFigure_any d t W
  have U := fun W => sErrorUnits_any s len a b c W
  by_cases g2 : areErrorsB a b c = true
  · by_cases g1 : figB d t = true
    · rw [g1] at I1
      by_cases g3 : (errScaleB s && inB len 1 100000) = true
      · have HV0 := Lib.hid (show rBound s len a b c d t = if (rSpread d t (errU s len a b c)).2.2 = 0 then rRel (rSpread d t (errU s len a b c)).2.1.1 (rSpread d t (errU s len a b c)).2.1.2 (rSpread d t (errU s len a b c)).1.1 (rSpread d t (errU s len a b c)).1.2 else (0, (rSpread d t (errU s len a b c)).2.2) by rw [rBound, if_pos (by rw [g1, g2]; rfl), if_pos g3])
        rw [show rUnits s len a b c = (errU s len a b c, 0) by rw [rUnits, if_pos g2, if_pos g3]] at U
        simp only at U
        have S := fun W => sSpreadFigure_any d t (errU s len a b c) W
        have OK := Lib.hid (fun (k1 k2 m1 m2 : Int) (h : rSpread d t (errU s len a b c) = ((k1, k2), (m1, m2), 0)) => rSpread_ok h)
        generalize hp : rSpread d t (errU s len a b c) = p at *
        clear hp g1 g3
        obtain ⟨⟨k1, k2⟩, ⟨m1, m2⟩, z⟩ := p
        unfold end2F at S
        simp only at HV0 S
        generalize errU s len a b c = un at *
        by_cases hz : z = 0
        · subst hz
          obtain ⟨f1, f2, f3⟩ := OK.out k1 k2 m1 m2 rfl
          have R := fun W => sSpanError_ok k1 k2 m1 m2 W f1 f2 f3
          have HV := Lib.hid (HV0.out.trans (if_pos rfl))
          clear f1 f2 f3 OK HV0
          generalize rRel m1 m2 k1 k2 = rr at *
          go_enter Try.func46, Try.ntmps46
          go_wp2_with (first
            | (go_at_call 99; (with_reducible refine (I1 _).mono ?_); rintro e w' ⟨rfl, rfl⟩)
            | (go_at_call 113; (with_reducible refine (sAreErrors_any _ _ _ _).mono ?_); rintro e w' ⟨rfl, rfl⟩)
            | (go_at_call 114; refine (U _).mono ?_; rintro e w1 ⟨rfl, hb1⟩; have hB1 : Below w.heap.size w w1 := Below.trans (by repeat' (first | exact Below.refl _ _ | assumption | refine Below.alloc ?_ (by first | omega | (simp; done) | (simp; omega)) _ | refine Below.drew ?_ | refine Below.setCell ?_ (by first | omega | (simp; done) | (simp; omega)) _)) (hb1.mono (by first | omega | (simp; done) | (simp; omega))); have hz1 := hB1.size; have hl1_0 : w.heap.size < w1.heap.size := Nat.lt_of_lt_of_le (by first | omega | (simp; done) | (simp; omega)) hb1.size; have q1_00 : w1.cell? ⟨w.heap.size, 0, none⟩ = some (.int .i64 a) := (by rw [hb1.cell (by first | omega | (simp; done) | (simp; omega))]; simp [go_sem, *]); have r1_00 : w1.frozen? ⟨w.heap.size, 0, none⟩ = false := (by rw [hb1.frozen (by first | omega | (simp; done) | (simp; omega))]; simp [go_sem, *]); have q1_01 : w1.cell? ⟨w.heap.size, 1, none⟩ = some (.int .i64 b) := (by rw [hb1.cell (by first | omega | (simp; done) | (simp; omega))]; simp [go_sem, *]); have r1_01 : w1.frozen? ⟨w.heap.size, 1, none⟩ = false := (by rw [hb1.frozen (by first | omega | (simp; done) | (simp; omega))]; simp [go_sem, *]); have q1_02 : w1.cell? ⟨w.heap.size, 2, none⟩ = some (.int .i64 c) := (by rw [hb1.cell (by first | omega | (simp; done) | (simp; omega))]; simp [go_sem, *]); have r1_02 : w1.frozen? ⟨w.heap.size, 2, none⟩ = false := (by rw [hb1.frozen (by first | omega | (simp; done) | (simp; omega))]; simp [go_sem, *]); have hl1_1 : (w.heap.size + 1) < w1.heap.size := Nat.lt_of_lt_of_le (by first | omega | (simp; done) | (simp; omega)) hb1.size; have q1_10 : w1.cell? ⟨(w.heap.size + 1), 0, none⟩ = some (.int .i64 d) := (by rw [hb1.cell (by first | omega | (simp; done) | (simp; omega))]; simp [go_sem, *]); have r1_10 : w1.frozen? ⟨(w.heap.size + 1), 0, none⟩ = false := (by rw [hb1.frozen (by first | omega | (simp; done) | (simp; omega))]; simp [go_sem, *]); have q1_11 : w1.cell? ⟨(w.heap.size + 1), 1, none⟩ = some (.int .i64 t) := (by rw [hb1.cell (by first | omega | (simp; done) | (simp; omega))]; simp [go_sem, *]); have r1_11 : w1.frozen? ⟨(w.heap.size + 1), 1, none⟩ = false := (by rw [hb1.frozen (by first | omega | (simp; done) | (simp; omega))]; simp [go_sem, *]); clear hb1)
            | (go_at_call 43; refine (S _).mono ?_; rintro e w2 ⟨rfl, hb2⟩; have hB2 : Below w.heap.size w w2 := Below.trans (by repeat' (first | exact Below.refl _ _ | assumption | refine Below.alloc ?_ (by first | omega | (simp; done) | (simp; omega)) _ | refine Below.drew ?_ | refine Below.setCell ?_ (by first | omega | (simp; done) | (simp; omega)) _)) (hb2.mono (by first | omega | (simp; done) | (simp; omega))); have hz2 := hB2.size; clear hb2)
            | (go_at_call 115; refine (R _).mono ?_; rintro e w3 ⟨rfl, hb3⟩; have hB3 : Below w.heap.size w w3 := Below.trans (by repeat' (first | exact Below.refl _ _ | assumption | refine Below.alloc ?_ (by first | omega | (simp; done) | (simp; omega)) _ | refine Below.drew ?_ | refine Below.setCell ?_ (by first | omega | (simp; done) | (simp; omega)) _)) (hb3.mono (by first | omega | (simp; done) | (simp; omega))); have hz3 := hB3.size; clear hb3))
          go_ret2
          exact ⟨endPr HV.out, by repeat' (first | exact Below.refl _ _ | assumption | refine Below.alloc ?_ (by first | omega | (simp; done) | (simp; omega)) _ | refine Below.drew ?_ | refine Below.setCell ?_ (by first | omega | (simp; done) | (simp; omega)) _)⟩
        · have HV := Lib.hid (HV0.out.trans (if_neg hz))
          have hz1 : (z != 0) = true := by simpa using hz
          clear OK HV0
          go_enter Try.func46, Try.ntmps46
          go_wp2_with (first
            | (go_at_call 99; (with_reducible refine (I1 _).mono ?_); rintro e w' ⟨rfl, rfl⟩)
            | (go_at_call 113; (with_reducible refine (sAreErrors_any _ _ _ _).mono ?_); rintro e w' ⟨rfl, rfl⟩)
            | (go_at_call 114; refine (U _).mono ?_; rintro e w1 ⟨rfl, hb1⟩; have hB1 : Below w.heap.size w w1 := Below.trans (by repeat' (first | exact Below.refl _ _ | assumption | refine Below.alloc ?_ (by first | omega | (simp; done) | (simp; omega)) _ | refine Below.drew ?_ | refine Below.setCell ?_ (by first | omega | (simp; done) | (simp; omega)) _)) (hb1.mono (by first | omega | (simp; done) | (simp; omega))); have hz1 := hB1.size; have hl1_0 : w.heap.size < w1.heap.size := Nat.lt_of_lt_of_le (by first | omega | (simp; done) | (simp; omega)) hb1.size; have q1_00 : w1.cell? ⟨w.heap.size, 0, none⟩ = some (.int .i64 a) := (by rw [hb1.cell (by first | omega | (simp; done) | (simp; omega))]; simp [go_sem, *]); have r1_00 : w1.frozen? ⟨w.heap.size, 0, none⟩ = false := (by rw [hb1.frozen (by first | omega | (simp; done) | (simp; omega))]; simp [go_sem, *]); have q1_01 : w1.cell? ⟨w.heap.size, 1, none⟩ = some (.int .i64 b) := (by rw [hb1.cell (by first | omega | (simp; done) | (simp; omega))]; simp [go_sem, *]); have r1_01 : w1.frozen? ⟨w.heap.size, 1, none⟩ = false := (by rw [hb1.frozen (by first | omega | (simp; done) | (simp; omega))]; simp [go_sem, *]); have q1_02 : w1.cell? ⟨w.heap.size, 2, none⟩ = some (.int .i64 c) := (by rw [hb1.cell (by first | omega | (simp; done) | (simp; omega))]; simp [go_sem, *]); have r1_02 : w1.frozen? ⟨w.heap.size, 2, none⟩ = false := (by rw [hb1.frozen (by first | omega | (simp; done) | (simp; omega))]; simp [go_sem, *]); have hl1_1 : (w.heap.size + 1) < w1.heap.size := Nat.lt_of_lt_of_le (by first | omega | (simp; done) | (simp; omega)) hb1.size; have q1_10 : w1.cell? ⟨(w.heap.size + 1), 0, none⟩ = some (.int .i64 d) := (by rw [hb1.cell (by first | omega | (simp; done) | (simp; omega))]; simp [go_sem, *]); have r1_10 : w1.frozen? ⟨(w.heap.size + 1), 0, none⟩ = false := (by rw [hb1.frozen (by first | omega | (simp; done) | (simp; omega))]; simp [go_sem, *]); have q1_11 : w1.cell? ⟨(w.heap.size + 1), 1, none⟩ = some (.int .i64 t) := (by rw [hb1.cell (by first | omega | (simp; done) | (simp; omega))]; simp [go_sem, *]); have r1_11 : w1.frozen? ⟨(w.heap.size + 1), 1, none⟩ = false := (by rw [hb1.frozen (by first | omega | (simp; done) | (simp; omega))]; simp [go_sem, *]); clear hb1)
            | (go_at_call 43; refine (S _).mono ?_; rintro e w2 ⟨rfl, hb2⟩; have hB2 : Below w.heap.size w w2 := Below.trans (by repeat' (first | exact Below.refl _ _ | assumption | refine Below.alloc ?_ (by first | omega | (simp; done) | (simp; omega)) _ | refine Below.drew ?_ | refine Below.setCell ?_ (by first | omega | (simp; done) | (simp; omega)) _)) (hb2.mono (by first | omega | (simp; done) | (simp; omega))); have hz2 := hB2.size; clear hb2))
          go_ret2
          exact ⟨endTwo HV.out, by repeat' (first | exact Below.refl _ _ | assumption | refine Below.alloc ?_ (by first | omega | (simp; done) | (simp; omega)) _ | refine Below.drew ?_ | refine Below.setCell ?_ (by first | omega | (simp; done) | (simp; omega)) _)⟩
      · have HV := Lib.hid (show rBound s len a b c d t = (0, 2) by rw [rBound, if_pos (by rw [g1, g2]; rfl), if_neg g3])
        rw [show rUnits s len a b c = (0, 2) by rw [rUnits, if_pos g2, if_neg g3]] at U
        simp only at U
        clear g3 g1
        go_enter Try.func46, Try.ntmps46
        go_wp2_with (first
          | (go_at_call 99; (with_reducible refine (I1 _).mono ?_); rintro e w' ⟨rfl, rfl⟩)
          | (go_at_call 113; (with_reducible refine (sAreErrors_any _ _ _ _).mono ?_); rintro e w' ⟨rfl, rfl⟩)
          | (go_at_call 114; refine (U _).mono ?_; rintro e w1 ⟨rfl, hb1⟩; have hB1 : Below w.heap.size w w1 := Below.trans (by repeat' (first | exact Below.refl _ _ | assumption | refine Below.alloc ?_ (by first | omega | (simp; done) | (simp; omega)) _ | refine Below.drew ?_ | refine Below.setCell ?_ (by first | omega | (simp; done) | (simp; omega)) _)) (hb1.mono (by first | omega | (simp; done) | (simp; omega))); have hz1 := hB1.size; have hl1_0 : w.heap.size < w1.heap.size := Nat.lt_of_lt_of_le (by first | omega | (simp; done) | (simp; omega)) hb1.size; have q1_00 : w1.cell? ⟨w.heap.size, 0, none⟩ = some (.int .i64 a) := (by rw [hb1.cell (by first | omega | (simp; done) | (simp; omega))]; simp [go_sem, *]); have r1_00 : w1.frozen? ⟨w.heap.size, 0, none⟩ = false := (by rw [hb1.frozen (by first | omega | (simp; done) | (simp; omega))]; simp [go_sem, *]); have q1_01 : w1.cell? ⟨w.heap.size, 1, none⟩ = some (.int .i64 b) := (by rw [hb1.cell (by first | omega | (simp; done) | (simp; omega))]; simp [go_sem, *]); have r1_01 : w1.frozen? ⟨w.heap.size, 1, none⟩ = false := (by rw [hb1.frozen (by first | omega | (simp; done) | (simp; omega))]; simp [go_sem, *]); have q1_02 : w1.cell? ⟨w.heap.size, 2, none⟩ = some (.int .i64 c) := (by rw [hb1.cell (by first | omega | (simp; done) | (simp; omega))]; simp [go_sem, *]); have r1_02 : w1.frozen? ⟨w.heap.size, 2, none⟩ = false := (by rw [hb1.frozen (by first | omega | (simp; done) | (simp; omega))]; simp [go_sem, *]); have hl1_1 : (w.heap.size + 1) < w1.heap.size := Nat.lt_of_lt_of_le (by first | omega | (simp; done) | (simp; omega)) hb1.size; have q1_10 : w1.cell? ⟨(w.heap.size + 1), 0, none⟩ = some (.int .i64 d) := (by rw [hb1.cell (by first | omega | (simp; done) | (simp; omega))]; simp [go_sem, *]); have r1_10 : w1.frozen? ⟨(w.heap.size + 1), 0, none⟩ = false := (by rw [hb1.frozen (by first | omega | (simp; done) | (simp; omega))]; simp [go_sem, *]); have q1_11 : w1.cell? ⟨(w.heap.size + 1), 1, none⟩ = some (.int .i64 t) := (by rw [hb1.cell (by first | omega | (simp; done) | (simp; omega))]; simp [go_sem, *]); have r1_11 : w1.frozen? ⟨(w.heap.size + 1), 1, none⟩ = false := (by rw [hb1.frozen (by first | omega | (simp; done) | (simp; omega))]; simp [go_sem, *]); clear hb1))
        go_ret2
        exact ⟨endTwo HV.out, by repeat' (first | exact Below.refl _ _ | assumption | refine Below.alloc ?_ (by first | omega | (simp; done) | (simp; omega)) _ | refine Below.drew ?_ | refine Below.setCell ?_ (by first | omega | (simp; done) | (simp; omega)) _)⟩
    · have HV := Lib.hid (show rBound s len a b c d t = (0, 1) by rw [rBound, if_neg (by simp [g1])])
      have g1' : figB d t = false := by simpa using g1
      rw [g1'] at I1
      clear g1 g1'
      go_enter Try.func46, Try.ntmps46
      go_wp2_with (first
        | (go_at_call 99; (with_reducible refine (I1 _).mono ?_); rintro e w' ⟨rfl, rfl⟩)
        | (go_at_call 113; (with_reducible refine (sAreErrors_any _ _ _ _).mono ?_); rintro e w' ⟨rfl, rfl⟩))
      go_ret2
      exact ⟨endTwo HV.out, by repeat' (first | exact Below.refl _ _ | assumption | refine Below.alloc ?_ (by first | omega | (simp; done) | (simp; omega)) _ | refine Below.drew ?_ | refine Below.setCell ?_ (by first | omega | (simp; done) | (simp; omega)) _)⟩
  · have HV := Lib.hid (show rBound s len a b c d t = (0, 1) by rw [rBound, if_neg (by simp [g2])])
    have g2' : areErrorsB a b c = false := by simpa using g2
    clear g2
    go_enter Try.func46, Try.ntmps46
    go_wp2_with (first
      | (go_at_call 113; (with_reducible refine (sAreErrors_any _ _ _ _).mono ?_); rintro e w' ⟨rfl, rfl⟩))
    go_ret2
    exact ⟨endTwo HV.out, by repeat' (first | exact Below.refl _ _ | assumption | refine Below.alloc ?_ (by first | omega | (simp; done) | (simp; omega)) _ | refine Below.drew ?_ | refine Below.setCell ?_ (by first | omega | (simp; done) | (simp; omega)) _)⟩
end Go.Proofs.Ythnjiiodpjielaa
