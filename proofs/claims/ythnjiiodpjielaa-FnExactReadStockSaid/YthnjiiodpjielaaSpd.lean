/- SpreadFigure (layer 10) and its law. No condition. -/
import Derived.Test.YthnjiiodpjielaaSpn
import Derived.Test.YthnjiiodpjielaaErr4
namespace Go.Proofs.Ythnjiiodpjielaa
open Go.RowKit
set_option linter.unusedVariables false
set_option linter.unusedSimpArgs false
attribute [local go_sem] ivLowP ivHighP
set_option maxHeartbeats 400000 in
theorem l10Spread_any (d t un : Int) (w : World) (hd : Dig d) (t1 : -30 ≤ t) (t2 : t ≤ 30) (h1 : 0 ≤ un) (h2 : un ≤ 1048576) :
    Calls Try.prog 108 #[.agg #[.int .i64 d, .int .i64 t], .int .i64 un] w fun e w' => e = .returned (end2F (rSpan (fL d t - un) (fU d t + un))) ∧ Below w.heap.size w w' := by
  have L := fun W => l03Figure_any d t W hd (by omega) (by omega)
  have a := dL_bd hd
  have b := dU_bd hd
  have fb : -100000000 ≤ fL d t ∧ fL d t ≤ 100000000 ∧ -100000000 ≤ fU d t ∧ fU d t ≤ 100000000 := by unfold fL fU; omega
  clear a b
  have S := fun W => l04Span_any (fL d t - un) (fU d t + un) W
  obtain ⟨p, HP⟩ : ∃ p, Hid (rSpan (fL d t - un) (fU d t + un) = p) := ⟨_, Lib.hid rfl⟩
  rw [HP.out] at S ⊢
  obtain ⟨⟨k1, k2⟩, ⟨m1, m2⟩, z⟩ := p
  unfold end2F at S
  generalize fL d t = x at *
  generalize fU d t = y at *
  unfold Dig at hd
  go_enter Try.func108, Try.ntmps108
  go_wp2_with (first
    | (go_at_call 156; refine (L _).mono ?_; rintro e w1 ⟨rfl, hb1⟩; have hB1 : Below w.heap.size w w1 := Below.trans (by repeat' (first | exact Below.refl _ _ | assumption | refine Below.alloc ?_ (by first | omega | (simp; done) | (simp; omega)) _ | refine Below.drew ?_ | refine Below.setCell ?_ (by first | omega | (simp; done) | (simp; omega)) _)) (hb1.mono (by first | omega | (simp; done) | (simp; omega))); have hz1 := hB1.size; have hl1_0 : (w.heap.size + 1) < w1.heap.size := Nat.lt_of_lt_of_le (by first | omega | (simp; done) | (simp; omega)) hb1.size; have q1_00 : w1.cell? ⟨(w.heap.size + 1), 0, none⟩ = some (.int .i64 0) := (by rw [hb1.cell (by first | omega | (simp; done) | (simp; omega))]; simp [go_sem, *]); have r1_00 : w1.frozen? ⟨(w.heap.size + 1), 0, none⟩ = false := (by rw [hb1.frozen (by first | omega | (simp; done) | (simp; omega))]; simp [go_sem, *]); have q1_01 : w1.cell? ⟨(w.heap.size + 1), 1, none⟩ = some (.int .i64 0) := (by rw [hb1.cell (by first | omega | (simp; done) | (simp; omega))]; simp [go_sem, *]); have r1_01 : w1.frozen? ⟨(w.heap.size + 1), 1, none⟩ = false := (by rw [hb1.frozen (by first | omega | (simp; done) | (simp; omega))]; simp [go_sem, *]); have hl1_1 : (w.heap.size + 2) < w1.heap.size := Nat.lt_of_lt_of_le (by first | omega | (simp; done) | (simp; omega)) hb1.size; have q1_10 : w1.cell? ⟨(w.heap.size + 2), 0, none⟩ = some (.int .i64 0) := (by rw [hb1.cell (by first | omega | (simp; done) | (simp; omega))]; simp [go_sem, *]); have r1_10 : w1.frozen? ⟨(w.heap.size + 2), 0, none⟩ = false := (by rw [hb1.frozen (by first | omega | (simp; done) | (simp; omega))]; simp [go_sem, *]); have q1_11 : w1.cell? ⟨(w.heap.size + 2), 1, none⟩ = some (.int .i64 0) := (by rw [hb1.cell (by first | omega | (simp; done) | (simp; omega))]; simp [go_sem, *]); have r1_11 : w1.frozen? ⟨(w.heap.size + 2), 1, none⟩ = false := (by rw [hb1.frozen (by first | omega | (simp; done) | (simp; omega))]; simp [go_sem, *]); clear hb1)
    | (go_at_call 157; refine (S _).mono ?_; rintro e w2 ⟨rfl, hb2⟩; have hB2 : Below w.heap.size w w2 := Below.trans (by repeat' (first | exact Below.refl _ _ | assumption | refine Below.alloc ?_ (by first | omega | (simp; done) | (simp; omega)) _ | refine Below.drew ?_ | refine Below.setCell ?_ (by first | omega | (simp; done) | (simp; omega)) _)) (hb2.mono (by first | omega | (simp; done) | (simp; omega))); have hz2 := hB2.size; have hl2_0 : (w.heap.size + 1) < w2.heap.size := Nat.lt_of_lt_of_le (by first | omega | (simp; done) | (simp; omega)) hb2.size; have q2_00 : w2.cell? ⟨(w.heap.size + 1), 0, none⟩ = some (.int .i64 0) := (by rw [hb2.cell (by first | omega | (simp; done) | (simp; omega))]; simp [go_sem, *]); have r2_00 : w2.frozen? ⟨(w.heap.size + 1), 0, none⟩ = false := (by rw [hb2.frozen (by first | omega | (simp; done) | (simp; omega))]; simp [go_sem, *]); have q2_01 : w2.cell? ⟨(w.heap.size + 1), 1, none⟩ = some (.int .i64 0) := (by rw [hb2.cell (by first | omega | (simp; done) | (simp; omega))]; simp [go_sem, *]); have r2_01 : w2.frozen? ⟨(w.heap.size + 1), 1, none⟩ = false := (by rw [hb2.frozen (by first | omega | (simp; done) | (simp; omega))]; simp [go_sem, *]); have hl2_1 : (w.heap.size + 2) < w2.heap.size := Nat.lt_of_lt_of_le (by first | omega | (simp; done) | (simp; omega)) hb2.size; have q2_10 : w2.cell? ⟨(w.heap.size + 2), 0, none⟩ = some (.int .i64 0) := (by rw [hb2.cell (by first | omega | (simp; done) | (simp; omega))]; simp [go_sem, *]); have r2_10 : w2.frozen? ⟨(w.heap.size + 2), 0, none⟩ = false := (by rw [hb2.frozen (by first | omega | (simp; done) | (simp; omega))]; simp [go_sem, *]); have q2_11 : w2.cell? ⟨(w.heap.size + 2), 1, none⟩ = some (.int .i64 0) := (by rw [hb2.cell (by first | omega | (simp; done) | (simp; omega))]; simp [go_sem, *]); have r2_11 : w2.frozen? ⟨(w.heap.size + 2), 1, none⟩ = false := (by rw [hb2.frozen (by first | omega | (simp; done) | (simp; omega))]; simp [go_sem, *]); clear hb2))
  (refine bodyPost_ret (v := .tuple #[.agg #[.int .i64 k1, .int .i64 k2], .agg #[.int .i64 m1, .int .i64 m2], .int .i64 z]) ?_ rfl ?_; (focus (simp [results, Try.results108, go_sem, *])); exact ⟨end2F_of rfl, by repeat' (first | exact Below.refl _ _ | assumption | refine Below.alloc ?_ (by first | omega | (simp; done) | (simp; omega)) _ | refine Below.drew ?_ | refine Below.setCell ?_ (by first | omega | (simp; done) | (simp; omega)) _)⟩)
set_option maxHeartbeats 400000 in
theorem spread_any (x y un : Int) (w : World) (x1 : -100000000 ≤ x) (x2 : x ≤ 100000000) (y1 : -100000000 ≤ y) (y2 : y ≤ 100000000) (h1 : 0 ≤ un) (h2 : un ≤ 1048576) :
    Calls Try.prog 106 #[.agg #[.int .i64 x, .int .i64 y], .int .i64 un] w fun e w' => e = .returned (.agg #[.int .i64 (x - un), .int .i64 (y + un)]) ∧ Below w.heap.size w w' := by
  go_enter Try.func106, Try.ntmps106
  go_wp2
  refine bodyPost_ret (v := .agg #[.int .i64 (x - un), .int .i64 (y + un)]) ?_ rfl ?_
  · simp [results, Try.results106, go_sem]
  · exact ⟨rfl, by repeat' (first | exact Below.refl _ _ | assumption | refine Below.alloc ?_ (by first | omega | (simp; done) | (simp; omega)) _ | refine Below.drew ?_ | refine Below.setCell ?_ (by first | omega | (simp; done) | (simp; omega)) _)⟩
set_option maxRecDepth 100000 in
set_option maxHeartbeats 2000000 in
theorem iSpreadFigure_any (d t un : Int) (w : World) :
    Calls Try.prog 42 #[.agg #[.int .i64 d, .int .i64 t], .int .i64 un] w fun e w' => e = .returned (end2F (rSpread d t un)) ∧ Below w.heap.size w w' := by
  have I1 := fun W => iIsFigure_any d t W
  by_cases g1 : figB d t = true
  · rw [g1] at I1
    have hB : ∀ lo hi : Int, lo = 0 → hi = 1048576 → inB un lo hi = inB un 0 1048576 := fun _ _ h1 h2 => by rw [h1, h2]
    by_cases g2 : inB un 0 1048576 = true
    · obtain ⟨hd, t1, t2⟩ := figB_iff.1 g1
      have S := fun W => spanOf_any (fL d t - un) (fU d t + un) W
      have L := fun W => figureLog_any d t W hd (by omega) (by omega)
      have a := dL_bd hd
      have b := dU_bd hd
      have fb : -100000000 ≤ fL d t ∧ fL d t ≤ 100000000 ∧ -100000000 ≤ fU d t ∧ fU d t ≤ 100000000 := by unfold fL fU; omega
      have SP := fun W => spread_any (fL d t) (fU d t) un W fb.1 fb.2.1 fb.2.2.1 fb.2.2.2 (inB_iff.1 g2).1 (inB_iff.1 g2).2
      clear a b
      have HV := Lib.hid (show rSpread d t un = rSpan (fL d t - un) (fU d t + un) by rw [rSpread, if_pos g1, if_pos g2])
      clear hB g1
      obtain ⟨p, HP⟩ : ∃ p, Hid (rSpan (fL d t - un) (fU d t + un) = p) := ⟨_, Lib.hid rfl⟩
      rw [HP.out] at S
      obtain ⟨⟨k1, k2⟩, ⟨m1, m2⟩, z⟩ := p
      unfold end2F at S
      have HR := Lib.hid (HV.out.trans HP.out)
      clear HV HP
      rw [HR.out]
      generalize fL d t = x at *
      generalize fU d t = y at *
      unfold Dig at hd
      go_enter Try.func42, Try.ntmps42
      go_wp2_with (first
        | (go_at_call 104; (with_reducible refine (I1 _).mono ?_); rintro e w' ⟨rfl, rfl⟩)
        | (go_at_call 66; refine (within_any _ _ _ _).mono ?_; rintro e w' ⟨rfl, rfl⟩)
        | (go_at_call 107; refine (L _).mono ?_; rintro e w1 ⟨rfl, hb1⟩; have hB1 : Below w.heap.size w w1 := Below.trans (by repeat' (first | exact Below.refl _ _ | assumption | refine Below.alloc ?_ (by first | omega | (simp; done) | (simp; omega)) _ | refine Below.drew ?_ | refine Below.setCell ?_ (by first | omega | (simp; done) | (simp; omega)) _)) (hb1.mono (by first | omega | (simp; done) | (simp; omega))); have hz1 := hB1.size; have hl1_0 : (w.heap.size + 1) < w1.heap.size := Nat.lt_of_lt_of_le (by first | omega | (simp; done) | (simp; omega)) hb1.size; have q1_00 : w1.cell? ⟨(w.heap.size + 1), 0, none⟩ = some (.int .i64 0) := (by rw [hb1.cell (by first | omega | (simp; done) | (simp; omega))]; simp [go_sem, *]); have r1_00 : w1.frozen? ⟨(w.heap.size + 1), 0, none⟩ = false := (by rw [hb1.frozen (by first | omega | (simp; done) | (simp; omega))]; simp [go_sem, *]); have q1_01 : w1.cell? ⟨(w.heap.size + 1), 1, none⟩ = some (.int .i64 0) := (by rw [hb1.cell (by first | omega | (simp; done) | (simp; omega))]; simp [go_sem, *]); have r1_01 : w1.frozen? ⟨(w.heap.size + 1), 1, none⟩ = false := (by rw [hb1.frozen (by first | omega | (simp; done) | (simp; omega))]; simp [go_sem, *]); have hl1_1 : (w.heap.size + 2) < w1.heap.size := Nat.lt_of_lt_of_le (by first | omega | (simp; done) | (simp; omega)) hb1.size; have q1_10 : w1.cell? ⟨(w.heap.size + 2), 0, none⟩ = some (.int .i64 0) := (by rw [hb1.cell (by first | omega | (simp; done) | (simp; omega))]; simp [go_sem, *]); have r1_10 : w1.frozen? ⟨(w.heap.size + 2), 0, none⟩ = false := (by rw [hb1.frozen (by first | omega | (simp; done) | (simp; omega))]; simp [go_sem, *]); have q1_11 : w1.cell? ⟨(w.heap.size + 2), 1, none⟩ = some (.int .i64 0) := (by rw [hb1.cell (by first | omega | (simp; done) | (simp; omega))]; simp [go_sem, *]); have r1_11 : w1.frozen? ⟨(w.heap.size + 2), 1, none⟩ = false := (by rw [hb1.frozen (by first | omega | (simp; done) | (simp; omega))]; simp [go_sem, *]); clear hb1)
        | (go_at_call 106; refine (SP _).mono ?_; rintro e w2 ⟨rfl, hb2⟩; have hB2 : Below w.heap.size w w2 := Below.trans (by repeat' (first | exact Below.refl _ _ | assumption | refine Below.alloc ?_ (by first | omega | (simp; done) | (simp; omega)) _ | refine Below.drew ?_ | refine Below.setCell ?_ (by first | omega | (simp; done) | (simp; omega)) _)) (hb2.mono (by first | omega | (simp; done) | (simp; omega))); have hz2 := hB2.size; have hl2_0 : (w.heap.size + 1) < w2.heap.size := Nat.lt_of_lt_of_le (by first | omega | (simp; done) | (simp; omega)) hb2.size; have q2_00 : w2.cell? ⟨(w.heap.size + 1), 0, none⟩ = some (.int .i64 0) := (by rw [hb2.cell (by first | omega | (simp; done) | (simp; omega))]; simp [go_sem, *]); have r2_00 : w2.frozen? ⟨(w.heap.size + 1), 0, none⟩ = false := (by rw [hb2.frozen (by first | omega | (simp; done) | (simp; omega))]; simp [go_sem, *]); have q2_01 : w2.cell? ⟨(w.heap.size + 1), 1, none⟩ = some (.int .i64 0) := (by rw [hb2.cell (by first | omega | (simp; done) | (simp; omega))]; simp [go_sem, *]); have r2_01 : w2.frozen? ⟨(w.heap.size + 1), 1, none⟩ = false := (by rw [hb2.frozen (by first | omega | (simp; done) | (simp; omega))]; simp [go_sem, *]); have hl2_1 : (w.heap.size + 2) < w2.heap.size := Nat.lt_of_lt_of_le (by first | omega | (simp; done) | (simp; omega)) hb2.size; have q2_10 : w2.cell? ⟨(w.heap.size + 2), 0, none⟩ = some (.int .i64 0) := (by rw [hb2.cell (by first | omega | (simp; done) | (simp; omega))]; simp [go_sem, *]); have r2_10 : w2.frozen? ⟨(w.heap.size + 2), 0, none⟩ = false := (by rw [hb2.frozen (by first | omega | (simp; done) | (simp; omega))]; simp [go_sem, *]); have q2_11 : w2.cell? ⟨(w.heap.size + 2), 1, none⟩ = some (.int .i64 0) := (by rw [hb2.cell (by first | omega | (simp; done) | (simp; omega))]; simp [go_sem, *]); have r2_11 : w2.frozen? ⟨(w.heap.size + 2), 1, none⟩ = false := (by rw [hb2.frozen (by first | omega | (simp; done) | (simp; omega))]; simp [go_sem, *]); clear hb2)
        | (go_at_call 105; refine (S _).mono ?_; rintro e w3 ⟨rfl, hb3⟩; have hB3 : Below w.heap.size w w3 := Below.trans (by repeat' (first | exact Below.refl _ _ | assumption | refine Below.alloc ?_ (by first | omega | (simp; done) | (simp; omega)) _ | refine Below.drew ?_ | refine Below.setCell ?_ (by first | omega | (simp; done) | (simp; omega)) _)) (hb3.mono (by first | omega | (simp; done) | (simp; omega))); have hz3 := hB3.size; have hl3_0 : (w.heap.size + 1) < w3.heap.size := Nat.lt_of_lt_of_le (by first | omega | (simp; done) | (simp; omega)) hb3.size; have q3_00 : w3.cell? ⟨(w.heap.size + 1), 0, none⟩ = some (.int .i64 0) := (by rw [hb3.cell (by first | omega | (simp; done) | (simp; omega))]; simp [go_sem, *]); have r3_00 : w3.frozen? ⟨(w.heap.size + 1), 0, none⟩ = false := (by rw [hb3.frozen (by first | omega | (simp; done) | (simp; omega))]; simp [go_sem, *]); have q3_01 : w3.cell? ⟨(w.heap.size + 1), 1, none⟩ = some (.int .i64 0) := (by rw [hb3.cell (by first | omega | (simp; done) | (simp; omega))]; simp [go_sem, *]); have r3_01 : w3.frozen? ⟨(w.heap.size + 1), 1, none⟩ = false := (by rw [hb3.frozen (by first | omega | (simp; done) | (simp; omega))]; simp [go_sem, *]); have hl3_1 : (w.heap.size + 2) < w3.heap.size := Nat.lt_of_lt_of_le (by first | omega | (simp; done) | (simp; omega)) hb3.size; have q3_10 : w3.cell? ⟨(w.heap.size + 2), 0, none⟩ = some (.int .i64 0) := (by rw [hb3.cell (by first | omega | (simp; done) | (simp; omega))]; simp [go_sem, *]); have r3_10 : w3.frozen? ⟨(w.heap.size + 2), 0, none⟩ = false := (by rw [hb3.frozen (by first | omega | (simp; done) | (simp; omega))]; simp [go_sem, *]); have q3_11 : w3.cell? ⟨(w.heap.size + 2), 1, none⟩ = some (.int .i64 0) := (by rw [hb3.cell (by first | omega | (simp; done) | (simp; omega))]; simp [go_sem, *]); have r3_11 : w3.frozen? ⟨(w.heap.size + 2), 1, none⟩ = false := (by rw [hb3.frozen (by first | omega | (simp; done) | (simp; omega))]; simp [go_sem, *]); clear hb3))
      (refine bodyPost_ret (v := .tuple #[.agg #[.int .i64 k1, .int .i64 k2], .agg #[.int .i64 m1, .int .i64 m2], .int .i64 z]) ?_ rfl ?_; (focus (simp [results, Try.results42, go_sem, *])); exact ⟨end2F_of rfl, by repeat' (first | exact Below.refl _ _ | assumption | refine Below.alloc ?_ (by first | omega | (simp; done) | (simp; omega)) _ | refine Below.drew ?_ | refine Below.setCell ?_ (by first | omega | (simp; done) | (simp; omega)) _)⟩)
    · have HV := Lib.hid (show rSpread d t un = ((0, 0), (0, 0), 2) by rw [rSpread, if_pos g1, if_neg g2])
      have g2' : inB un 0 1048576 = false := by simpa using g2
      clear g1 hB g2
      go_enter Try.func42, Try.ntmps42
      go_wp2_with (first
        | (go_at_call 104; (with_reducible refine (I1 _).mono ?_); rintro e w' ⟨rfl, rfl⟩)
        | (go_at_call 66; refine (within_any _ _ _ _).mono ?_; rintro e w' ⟨rfl, rfl⟩))
      (refine bodyPost_ret (v := .tuple #[.agg #[.int .i64 0, .int .i64 0], .agg #[.int .i64 0, .int .i64 0], .int .i64 2]) ?_ rfl ?_; (focus (simp [results, Try.results42, go_sem, *])); exact ⟨end2F_of HV.out, by repeat' (first | exact Below.refl _ _ | assumption | refine Below.alloc ?_ (by first | omega | (simp; done) | (simp; omega)) _ | refine Below.drew ?_ | refine Below.setCell ?_ (by first | omega | (simp; done) | (simp; omega)) _)⟩)
  · have HV := Lib.hid (show rSpread d t un = ((0, 0), (0, 0), 1) by rw [rSpread, if_neg g1])
    have g1' : figB d t = false := by simpa using g1
    rw [g1'] at I1
    clear g1 g1'
    go_enter Try.func42, Try.ntmps42
    go_wp2_with (first
      | (go_at_call 104; (with_reducible refine (I1 _).mono ?_); rintro e w' ⟨rfl, rfl⟩))
    (refine bodyPost_ret (v := .tuple #[.agg #[.int .i64 0, .int .i64 0], .agg #[.int .i64 0, .int .i64 0], .int .i64 1]) ?_ rfl ?_; (focus (simp [results, Try.results42, go_sem, *])); exact ⟨end2F_of HV.out, by repeat' (first | exact Below.refl _ _ | assumption | refine Below.alloc ?_ (by first | omega | (simp; done) | (simp; omega)) _ | refine Below.drew ?_ | refine Below.setCell ?_ (by first | omega | (simp; done) | (simp; omega)) _)⟩)
set_option maxRecDepth 100000 in
set_option maxHeartbeats 2000000 in
theorem sSpreadFigure_any (d t un : Int) (w : World) :
    Calls Try.prog 43 #[.agg #[.int .i64 d, .int .i64 t], .int .i64 un] w fun e w' => e = .returned (end2F (rSpread d t un)) ∧ Below w.heap.size w w' := by
  have I1 := fun W => sIsFigure_any d t W
  by_cases g1 : figB d t = true
  · rw [g1] at I1
    have hB : ∀ lo hi : Int, lo = 0 → hi = 1048576 → inB un lo hi = inB un 0 1048576 := fun _ _ h1 h2 => by rw [h1, h2]
    by_cases g2 : inB un 0 1048576 = true
    · obtain ⟨hd, t1, t2⟩ := figB_iff.1 g1
      have S := fun W => l10Spread_any d t un W hd t1 t2 (inB_iff.1 g2).1 (inB_iff.1 g2).2
      have HV := Lib.hid (show rSpread d t un = rSpan (fL d t - un) (fU d t + un) by rw [rSpread, if_pos g1, if_pos g2])
      clear hB g1
      obtain ⟨p, HP⟩ : ∃ p, Hid (rSpan (fL d t - un) (fU d t + un) = p) := ⟨_, Lib.hid rfl⟩
      rw [HP.out] at S
      obtain ⟨⟨k1, k2⟩, ⟨m1, m2⟩, z⟩ := p
      unfold end2F at S
      have HR := Lib.hid (HV.out.trans HP.out)
      clear HV HP
      rw [HR.out]
      generalize fL d t = x at *
      generalize fU d t = y at *
      unfold Dig at hd
      go_enter Try.func43, Try.ntmps43
      go_wp2_with (first
        | (go_at_call 99; (with_reducible refine (I1 _).mono ?_); rintro e w' ⟨rfl, rfl⟩)
        | (go_at_call 70; refine (l01In_any _ _ _ _).mono ?_; rintro e w' ⟨rfl, rfl⟩)
        | (go_at_call 108; refine (S _).mono ?_; rintro e w2 ⟨rfl, hb2⟩; have hB2 : Below w.heap.size w w2 := Below.trans (by repeat' (first | exact Below.refl _ _ | assumption | refine Below.alloc ?_ (by first | omega | (simp; done) | (simp; omega)) _ | refine Below.drew ?_ | refine Below.setCell ?_ (by first | omega | (simp; done) | (simp; omega)) _)) (hb2.mono (by first | omega | (simp; done) | (simp; omega))); have hz2 := hB2.size; have hl2_0 : (w.heap.size + 1) < w2.heap.size := Nat.lt_of_lt_of_le (by first | omega | (simp; done) | (simp; omega)) hb2.size; have q2_00 : w2.cell? ⟨(w.heap.size + 1), 0, none⟩ = some (.int .i64 0) := (by rw [hb2.cell (by first | omega | (simp; done) | (simp; omega))]; simp [go_sem, *]); have r2_00 : w2.frozen? ⟨(w.heap.size + 1), 0, none⟩ = false := (by rw [hb2.frozen (by first | omega | (simp; done) | (simp; omega))]; simp [go_sem, *]); have q2_01 : w2.cell? ⟨(w.heap.size + 1), 1, none⟩ = some (.int .i64 0) := (by rw [hb2.cell (by first | omega | (simp; done) | (simp; omega))]; simp [go_sem, *]); have r2_01 : w2.frozen? ⟨(w.heap.size + 1), 1, none⟩ = false := (by rw [hb2.frozen (by first | omega | (simp; done) | (simp; omega))]; simp [go_sem, *]); have hl2_1 : (w.heap.size + 2) < w2.heap.size := Nat.lt_of_lt_of_le (by first | omega | (simp; done) | (simp; omega)) hb2.size; have q2_10 : w2.cell? ⟨(w.heap.size + 2), 0, none⟩ = some (.int .i64 0) := (by rw [hb2.cell (by first | omega | (simp; done) | (simp; omega))]; simp [go_sem, *]); have r2_10 : w2.frozen? ⟨(w.heap.size + 2), 0, none⟩ = false := (by rw [hb2.frozen (by first | omega | (simp; done) | (simp; omega))]; simp [go_sem, *]); have q2_11 : w2.cell? ⟨(w.heap.size + 2), 1, none⟩ = some (.int .i64 0) := (by rw [hb2.cell (by first | omega | (simp; done) | (simp; omega))]; simp [go_sem, *]); have r2_11 : w2.frozen? ⟨(w.heap.size + 2), 1, none⟩ = false := (by rw [hb2.frozen (by first | omega | (simp; done) | (simp; omega))]; simp [go_sem, *]); clear hb2))
      (refine bodyPost_ret (v := .tuple #[.agg #[.int .i64 k1, .int .i64 k2], .agg #[.int .i64 m1, .int .i64 m2], .int .i64 z]) ?_ rfl ?_; (focus (simp [results, Try.results43, go_sem, *])); exact ⟨end2F_of rfl, by repeat' (first | exact Below.refl _ _ | assumption | refine Below.alloc ?_ (by first | omega | (simp; done) | (simp; omega)) _ | refine Below.drew ?_ | refine Below.setCell ?_ (by first | omega | (simp; done) | (simp; omega)) _)⟩)
    · have HV := Lib.hid (show rSpread d t un = ((0, 0), (0, 0), 2) by rw [rSpread, if_pos g1, if_neg g2])
      have g2' : inB un 0 1048576 = false := by simpa using g2
      clear g1 hB g2
      go_enter Try.func43, Try.ntmps43
      go_wp2_with (first
        | (go_at_call 99; (with_reducible refine (I1 _).mono ?_); rintro e w' ⟨rfl, rfl⟩)
        | (go_at_call 70; refine (l01In_any _ _ _ _).mono ?_; rintro e w' ⟨rfl, rfl⟩))
      (refine bodyPost_ret (v := .tuple #[.agg #[.int .i64 0, .int .i64 0], .agg #[.int .i64 0, .int .i64 0], .int .i64 2]) ?_ rfl ?_; (focus (simp [results, Try.results43, go_sem, *])); exact ⟨end2F_of HV.out, by repeat' (first | exact Below.refl _ _ | assumption | refine Below.alloc ?_ (by first | omega | (simp; done) | (simp; omega)) _ | refine Below.drew ?_ | refine Below.setCell ?_ (by first | omega | (simp; done) | (simp; omega)) _)⟩)
  · have HV := Lib.hid (show rSpread d t un = ((0, 0), (0, 0), 1) by rw [rSpread, if_neg g1])
    have g1' : figB d t = false := by simpa using g1
    rw [g1'] at I1
    clear g1 g1'
    go_enter Try.func43, Try.ntmps43
    go_wp2_with (first
      | (go_at_call 99; (with_reducible refine (I1 _).mono ?_); rintro e w' ⟨rfl, rfl⟩))
    (refine bodyPost_ret (v := .tuple #[.agg #[.int .i64 0, .int .i64 0], .agg #[.int .i64 0, .int .i64 0], .int .i64 1]) ?_ rfl ?_; (focus (simp [results, Try.results43, go_sem, *])); exact ⟨end2F_of HV.out, by repeat' (first | exact Below.refl _ _ | assumption | refine Below.alloc ?_ (by first | omega | (simp; done) | (simp; omega)) _ | refine Below.drew ?_ | refine Below.setCell ?_ (by first | omega | (simp; done) | (simp; omega)) _)⟩)
set_option maxHeartbeats 400000 in
theorem eqFigure_same2 (a b : Int) (w : World) :
    Calls Try.prog 58 #[.agg #[.int .i64 a, .int .i64 b], .agg #[.int .i64 a, .int .i64 b]] w fun e w' => e = .returned (.bool true) ∧ Below w.heap.size w w' := by
  go_enter Try.func58, Try.ntmps58
  go_wp2
  go_ret
  exact ⟨by simp, by repeat' (first | exact Below.refl _ _ | assumption | refine Below.alloc ?_ (by first | omega | (simp; done) | (simp; omega)) _ | refine Below.drew ?_ | refine Below.setCell ?_ (by first | omega | (simp; done) | (simp; omega)) _)⟩
end Go.Proofs.Ythnjiiodpjielaa
