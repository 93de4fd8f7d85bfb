/- PointOf (layer 11), middles (layer 7). No condition. -/
import Derived.Test.YtfkbifoojmnhcaaMay
namespace Go.Proofs.Ytfkbifoojmnhcaa
open Go.RowKit
set_option linter.unusedVariables false
set_option linter.unusedSimpArgs false

def ptOf (s d t : Int) : Int := (pL s d t + pU s d t) / 2
def rPoint (s d t : Int) : Int × Int := if ckShown s d t = 0 then (ptOf s d t, 0) else (0, ckShown s d t)
theorem ckShown_fig {s d t : Int} (h : ckShown s d t = 0) : figB d t = true := by
  by_cases hf : figB d t = true
  · exact hf
  · rw [ckShown, if_neg hf] at h
    omega
set_option maxHeartbeats 400000 in
theorem pointOf_any (s d t : Int) (w : World) (hd : Dig d) (g1 : -1000000 ≤ t) (g2 : t ≤ 1000000) :
    Calls Try.prog 80 #[.int .i64 s, .agg #[.int .i64 d, .int .i64 t]] w fun e w' => e = .returned (.int .i64 (ptOf s d t)) ∧ Below w.heap.size w w' := by
  have L := fun W => position_any s d t W hd g1 g2
  have B := p_bd (s := s) (t := t) hd
  have HV := Lib.hid (show ptOf s d t = (pL s d t + pU s d t) / 2 from rfl)
  generalize pL s d t = p at *
  generalize pU s d t = q at *
  unfold Dig at hd
  go_enter Try.func80, Try.ntmps80
  go_wp2_with (first
    | (go_at_call 123; refine (L _).mono ?_; rintro e w1 ⟨rfl, hb1⟩; have hB1 : Below w.heap.size w w1 := Below.trans (by repeat' (first | exact Below.refl _ _ | assumption | refine Below.alloc ?_ (by first | omega | (simp; done) | (simp; omega)) _ | refine Below.drew ?_ | refine Below.setCell ?_ (by first | omega | (simp; done) | (simp; omega)) _)) (hb1.mono (by first | omega | (simp; done) | (simp; omega))); have hz1 := hB1.size; clear hb1)
    | (go_at_call 124; refine (down_any _ _ _ (by omega) (by omega) (by omega) (by omega)).mono ?_; rintro e w' ⟨rfl, rfl⟩))
  go_ret
  exact ⟨endInt HV.out.symm, by repeat' (first | exact Below.refl _ _ | assumption | refine Below.alloc ?_ (by first | omega | (simp; done) | (simp; omega)) _ | refine Below.drew ?_ | refine Below.setCell ?_ (by first | omega | (simp; done) | (simp; omega)) _)⟩
set_option maxHeartbeats 400000 in
theorem l11Point_any (s d t : Int) (w : World) (hd : Dig d) (g1 : -1000000 ≤ t) (g2 : t ≤ 1000000) :
    Calls Try.prog 78 #[.int .i64 s, .agg #[.int .i64 d, .int .i64 t]] w fun e w' => e = .returned (.int .i64 (ptOf s d t)) ∧ Below w.heap.size w w' := by
  have L := fun W => l05Position_any s d t W hd g1 g2
  have B := p_bd (s := s) (t := t) hd
  have HV := Lib.hid (show ptOf s d t = (pL s d t + pU s d t) / 2 from rfl)
  generalize pL s d t = p at *
  generalize pU s d t = q at *
  unfold Dig at hd
  go_enter Try.func78, Try.ntmps78
  go_wp2_with (first
    | (go_at_call 120; refine (L _).mono ?_; rintro e w1 ⟨rfl, hb1⟩; have hB1 : Below w.heap.size w w1 := Below.trans (by repeat' (first | exact Below.refl _ _ | assumption | refine Below.alloc ?_ (by first | omega | (simp; done) | (simp; omega)) _ | refine Below.drew ?_ | refine Below.setCell ?_ (by first | omega | (simp; done) | (simp; omega)) _)) (hb1.mono (by first | omega | (simp; done) | (simp; omega))); have hz1 := hB1.size; clear hb1)
    | (go_at_call 121; refine (l01Floor_any _ _ _ (by omega) (by omega) (by omega) (by omega)).mono ?_; rintro e w' ⟨rfl, rfl⟩))
  go_ret
  exact ⟨endInt HV.out.symm, by repeat' (first | exact Below.refl _ _ | assumption | refine Below.alloc ?_ (by first | omega | (simp; done) | (simp; omega)) _ | refine Below.drew ?_ | refine Below.setCell ?_ (by first | omega | (simp; done) | (simp; omega)) _)⟩
set_option maxHeartbeats 400000 in
theorem iPointOf_any (s d t : Int) (w : World) :
    Calls Try.prog 38 #[.int .i64 s, .agg #[.int .i64 d, .int .i64 t]] w fun e w' => e = .returned (.tuple #[.int .i64 (rPoint s d t).1, .int .i64 (rPoint s d t).2]) ∧ Below w.heap.size w w' := by
  have K := fun W b a b' => checkShown_one s d t b W a b'
  by_cases hk : ckShown s d t = 0
  · obtain ⟨hd, t1, t2⟩ := figB_dig (ckShown_fig hk)
    have HV := Lib.hid (show rPoint s d t = (ptOf s d t, 0) by rw [rPoint, if_pos hk])
    have P := fun W => pointOf_any s d t W hd t1 t2
    rw [hk] at K
    clear hk
    go_enter Try.func38, Try.ntmps38
    go_wp2_with (first
      | (go_at_call 79; refine (K _ (w.heap.size + 1) (by simp) (by simp)).mono ?_; rintro e w1 ⟨rfl, hb1⟩; have hB1 : Below w.heap.size w w1 := Below.trans (by repeat' (first | exact Below.refl _ _ | assumption | refine Below.alloc ?_ (by first | omega | (simp; done) | (simp; omega)) _ | refine Below.drew ?_ | refine Below.setCell ?_ (by first | omega | (simp; done) | (simp; omega)) _)) (hb1.mono (by first | omega | (simp; done) | (simp; omega))); have hz1 := hB1.size; have q10 : w1.cell? ⟨w.heap.size, 0, none⟩ = some (.int .i64 d) := (by rw [hb1.cell (by simp; omega)]; simp [go_sem]); have q11 : w1.cell? ⟨w.heap.size, 1, none⟩ = some (.int .i64 t) := (by rw [hb1.cell (by simp; omega)]; simp [go_sem]); clear hb1)
      | (go_at_call 80; refine (P _).mono ?_; rintro e w2 ⟨rfl, hb2⟩; have hB2 : Below w.heap.size w w2 := Below.trans (by repeat' (first | exact Below.refl _ _ | assumption | refine Below.alloc ?_ (by first | omega | (simp; done) | (simp; omega)) _ | refine Below.drew ?_ | refine Below.setCell ?_ (by first | omega | (simp; done) | (simp; omega)) _)) (hb2.mono (by first | omega | (simp; done) | (simp; omega))); have hz2 := hB2.size; clear hb2))
    go_ret2
    exact ⟨endTwo HV.out, by repeat' (first | exact Below.refl _ _ | assumption | refine Below.alloc ?_ (by first | omega | (simp; done) | (simp; omega)) _ | refine Below.drew ?_ | refine Below.setCell ?_ (by first | omega | (simp; done) | (simp; omega)) _)⟩
  · have HV := Lib.hid (show rPoint s d t = (0, ckShown s d t) by rw [rPoint, if_neg hk])
    generalize ckShown s d t = k at *
    go_enter Try.func38, Try.ntmps38
    go_wp2_with (first
      | (go_at_call 79; refine (K _ (w.heap.size + 1) (by simp) (by simp)).mono ?_; rintro e w1 ⟨rfl, hb1⟩; have hB1 : Below w.heap.size w w1 := Below.trans (by repeat' (first | exact Below.refl _ _ | assumption | refine Below.alloc ?_ (by first | omega | (simp; done) | (simp; omega)) _ | refine Below.drew ?_ | refine Below.setCell ?_ (by first | omega | (simp; done) | (simp; omega)) _)) (hb1.mono (by first | omega | (simp; done) | (simp; omega))); have hz1 := hB1.size; have q10 : w1.cell? ⟨w.heap.size, 0, none⟩ = some (.int .i64 d) := (by rw [hb1.cell (by simp; omega)]; simp [go_sem]); have q11 : w1.cell? ⟨w.heap.size, 1, none⟩ = some (.int .i64 t) := (by rw [hb1.cell (by simp; omega)]; simp [go_sem]); clear hb1))
    go_ret2
    exact ⟨endTwo HV.out, by repeat' (first | exact Below.refl _ _ | assumption | refine Below.alloc ?_ (by first | omega | (simp; done) | (simp; omega)) _ | refine Below.drew ?_ | refine Below.setCell ?_ (by first | omega | (simp; done) | (simp; omega)) _)⟩
set_option maxHeartbeats 400000 in
theorem sPointOf_any (s d t : Int) (w : World) :
    Calls Try.prog 36 #[.int .i64 s, .agg #[.int .i64 d, .int .i64 t]] w fun e w' => e = .returned (.tuple #[.int .i64 (rPoint s d t).1, .int .i64 (rPoint s d t).2]) ∧ Below w.heap.size w w' := by
  have K := fun W => l05Code_any s d t W
  by_cases hk : ckShown s d t = 0
  · obtain ⟨hd, t1, t2⟩ := figB_dig (ckShown_fig hk)
    have HV := Lib.hid (show rPoint s d t = (ptOf s d t, 0) by rw [rPoint, if_pos hk])
    have P := fun W => l11Point_any s d t W hd t1 t2
    rw [hk] at K
    clear hk
    go_enter Try.func36, Try.ntmps36
    go_wp2_with (first
      | (go_at_call 77; refine (K _).mono ?_; rintro e w1 ⟨rfl, hb1⟩; have hB1 : Below w.heap.size w w1 := Below.trans (by repeat' (first | exact Below.refl _ _ | assumption | refine Below.alloc ?_ (by first | omega | (simp; done) | (simp; omega)) _ | refine Below.drew ?_ | refine Below.setCell ?_ (by first | omega | (simp; done) | (simp; omega)) _)) (hb1.mono (by first | omega | (simp; done) | (simp; omega))); have hz1 := hB1.size; have hl1_0 : w.heap.size < w1.heap.size := Nat.lt_of_lt_of_le (by first | omega | (simp; done) | (simp; omega)) hb1.size; have q1_00 : w1.cell? ⟨w.heap.size, 0, none⟩ = some (.int .i64 d) := (by rw [hb1.cell (by first | omega | (simp; done) | (simp; omega))]; simp [go_sem, *]); have r1_00 : w1.frozen? ⟨w.heap.size, 0, none⟩ = false := (by rw [hb1.frozen (by first | omega | (simp; done) | (simp; omega))]; simp [go_sem, *]); have q1_01 : w1.cell? ⟨w.heap.size, 1, none⟩ = some (.int .i64 t) := (by rw [hb1.cell (by first | omega | (simp; done) | (simp; omega))]; simp [go_sem, *]); have r1_01 : w1.frozen? ⟨w.heap.size, 1, none⟩ = false := (by rw [hb1.frozen (by first | omega | (simp; done) | (simp; omega))]; simp [go_sem, *]); clear hb1)
      | (go_at_call 78; refine (P _).mono ?_; rintro e w2 ⟨rfl, hb2⟩; have hB2 : Below w.heap.size w w2 := Below.trans (by repeat' (first | exact Below.refl _ _ | assumption | refine Below.alloc ?_ (by first | omega | (simp; done) | (simp; omega)) _ | refine Below.drew ?_ | refine Below.setCell ?_ (by first | omega | (simp; done) | (simp; omega)) _)) (hb2.mono (by first | omega | (simp; done) | (simp; omega))); have hz2 := hB2.size; clear hb2))
    go_ret2
    exact ⟨endTwo HV.out, by repeat' (first | exact Below.refl _ _ | assumption | refine Below.alloc ?_ (by first | omega | (simp; done) | (simp; omega)) _ | refine Below.drew ?_ | refine Below.setCell ?_ (by first | omega | (simp; done) | (simp; omega)) _)⟩
  · have HV := Lib.hid (show rPoint s d t = (0, ckShown s d t) by rw [rPoint, if_neg hk])
    generalize ckShown s d t = k at *
    go_enter Try.func36, Try.ntmps36
    go_wp2_with (first
      | (go_at_call 77; refine (K _).mono ?_; rintro e w1 ⟨rfl, hb1⟩; have hB1 : Below w.heap.size w w1 := Below.trans (by repeat' (first | exact Below.refl _ _ | assumption | refine Below.alloc ?_ (by first | omega | (simp; done) | (simp; omega)) _ | refine Below.drew ?_ | refine Below.setCell ?_ (by first | omega | (simp; done) | (simp; omega)) _)) (hb1.mono (by first | omega | (simp; done) | (simp; omega))); have hz1 := hB1.size; have hl1_0 : w.heap.size < w1.heap.size := Nat.lt_of_lt_of_le (by first | omega | (simp; done) | (simp; omega)) hb1.size; have q1_00 : w1.cell? ⟨w.heap.size, 0, none⟩ = some (.int .i64 d) := (by rw [hb1.cell (by first | omega | (simp; done) | (simp; omega))]; simp [go_sem, *]); have r1_00 : w1.frozen? ⟨w.heap.size, 0, none⟩ = false := (by rw [hb1.frozen (by first | omega | (simp; done) | (simp; omega))]; simp [go_sem, *]); have q1_01 : w1.cell? ⟨w.heap.size, 1, none⟩ = some (.int .i64 t) := (by rw [hb1.cell (by first | omega | (simp; done) | (simp; omega))]; simp [go_sem, *]); have r1_01 : w1.frozen? ⟨w.heap.size, 1, none⟩ = false := (by rw [hb1.frozen (by first | omega | (simp; done) | (simp; omega))]; simp [go_sem, *]); clear hb1))
    go_ret2
    exact ⟨endTwo HV.out, by repeat' (first | exact Below.refl _ _ | assumption | refine Below.alloc ?_ (by first | omega | (simp; done) | (simp; omega)) _ | refine Below.drew ?_ | refine Below.setCell ?_ (by first | omega | (simp; done) | (simp; omega)) _)⟩
set_option maxHeartbeats 400000 in
theorem fnExactPointOf_walk (s d t : Int) (w : World) (_h1 : I64 s) (_h2 : I64 d) (_h3 : I64 t) :
    Calls Try.prog 8 #[.int .i64 s, .agg #[.int .i64 d, .int .i64 t]] w fun e w' => e = .returned (.bool true) ∧ Below w.heap.size w w' := by
  go_enter Try.func8, Try.ntmps8
  go_wp2_with (first
    | (go_at_call 37; refine (toFigure_any _ _ _).mono ?_; rintro e w' ⟨rfl, rfl⟩)
    | (go_at_call 36; refine (sPointOf_any _ _ _ _).mono ?_; rintro e w1 ⟨rfl, hb1⟩; have hB1 : Below w.heap.size w w1 := Below.trans (by repeat' (first | exact Below.refl _ _ | assumption | refine Below.alloc ?_ (by first | omega | (simp; done) | (simp; omega)) _ | refine Below.drew ?_ | refine Below.setCell ?_ (by first | omega | (simp; done) | (simp; omega)) _)) (hb1.mono (by first | omega | (simp; done) | (simp; omega))); have hz1 := hB1.size; have hl1_0 : w.heap.size < w1.heap.size := Nat.lt_of_lt_of_le (by first | omega | (simp; done) | (simp; omega)) hb1.size; have q1_00 : w1.cell? ⟨w.heap.size, 0, none⟩ = some (.int .i64 d) := (by rw [hb1.cell (by first | omega | (simp; done) | (simp; omega))]; simp [go_sem, *]); have r1_00 : w1.frozen? ⟨w.heap.size, 0, none⟩ = false := (by rw [hb1.frozen (by first | omega | (simp; done) | (simp; omega))]; simp [go_sem, *]); have q1_01 : w1.cell? ⟨w.heap.size, 1, none⟩ = some (.int .i64 t) := (by rw [hb1.cell (by first | omega | (simp; done) | (simp; omega))]; simp [go_sem, *]); have r1_01 : w1.frozen? ⟨w.heap.size, 1, none⟩ = false := (by rw [hb1.frozen (by first | omega | (simp; done) | (simp; omega))]; simp [go_sem, *]); clear hb1)
    | (go_at_call 38; refine (iPointOf_any _ _ _ _).mono ?_; rintro e w2 ⟨rfl, hb2⟩; have hB2 : Below w.heap.size w w2 := Below.trans (by repeat' (first | exact Below.refl _ _ | assumption | refine Below.alloc ?_ (by first | omega | (simp; done) | (simp; omega)) _ | refine Below.drew ?_ | refine Below.setCell ?_ (by first | omega | (simp; done) | (simp; omega)) _)) (hb2.mono (by first | omega | (simp; done) | (simp; omega))); have hz2 := hB2.size; clear hb2))
  go_ret
  exact ⟨rfl, by repeat' (first | exact Below.refl _ _ | assumption | refine Below.alloc ?_ (by first | omega | (simp; done) | (simp; omega)) _ | refine Below.drew ?_ | refine Below.setCell ?_ (by first | omega | (simp; done) | (simp; omega)) _)⟩
set_option maxHeartbeats 400000 in
theorem middle_any (s d len : Int) (w : World) (hd : Dig d) (h1 : 1 ≤ len) (h2 : len ≤ 100000) :
    Calls Try.prog 131 #[.int .i64 s, .int .i64 d, .int .i64 len] w fun e w' => e = .returned (.int .i64 ((plL s d 0 len + plU s d 0 len) / 2)) ∧ Below w.heap.size w w' := by
  have L := fun W => place_any s d 0 len W hd (by omega) (by omega) h1 h2
  have P := pl_bd (s := s) (t := 0) hd h1 h2
  have HV := Lib.hid (show (plL s d 0 len + plU s d 0 len) / 2 = (plL s d 0 len + plU s d 0 len) / 2 from rfl)
  generalize plL s d 0 len = x at *
  generalize plU s d 0 len = y at *
  unfold Dig at hd
  go_enter Try.func131, Try.ntmps131
  go_wp2_with (first
    | (go_at_call 87; refine (L _).mono ?_; rintro e w1 ⟨rfl, hb1⟩; have hB1 : Below w.heap.size w w1 := Below.trans (by repeat' (first | exact Below.refl _ _ | assumption | refine Below.alloc ?_ (by first | omega | (simp; done) | (simp; omega)) _ | refine Below.drew ?_ | refine Below.setCell ?_ (by first | omega | (simp; done) | (simp; omega)) _)) (hb1.mono (by first | omega | (simp; done) | (simp; omega))); have hz1 := hB1.size; clear hb1)
    | (go_at_call 124; refine (down_any _ _ _ (by omega) (by omega) (by omega) (by omega)).mono ?_; rintro e w' ⟨rfl, rfl⟩))
  go_ret
  exact ⟨rfl, by repeat' (first | exact Below.refl _ _ | assumption | refine Below.alloc ?_ (by first | omega | (simp; done) | (simp; omega)) _ | refine Below.drew ?_ | refine Below.setCell ?_ (by first | omega | (simp; done) | (simp; omega)) _)⟩
set_option maxHeartbeats 400000 in
theorem l07Middle_any (s d len : Int) (w : World) (hd : Dig d) (h1 : 1 ≤ len) (h2 : len ≤ 100000) :
    Calls Try.prog 130 #[.int .i64 s, .int .i64 d, .int .i64 len] w fun e w' => e = .returned (.int .i64 ((plL s d 0 len + plU s d 0 len) / 2)) ∧ Below w.heap.size w w' := by
  have Q := fun W => l05Position_any s d 0 W hd (by omega) (by omega)
  have B := p_bd (s := s) (t := 0) hd
  have L := fun W => l05Place_any (pL s d 0) (pU s d 0) len W B.1 B.2.1 B.2.2 h1 h2
  rw [show pL s d 0 * len / 1048576 = plL s d 0 len from rfl, show ceilDiv (pU s d 0 * len) 1048576 = plU s d 0 len from rfl] at L
  have P := pl_bd (s := s) (t := 0) hd h1 h2
  have HV := Lib.hid (show (plL s d 0 len + plU s d 0 len) / 2 = (plL s d 0 len + plU s d 0 len) / 2 from rfl)
  generalize plL s d 0 len = x at *
  generalize plU s d 0 len = y at *
  generalize pL s d 0 = p at *
  generalize pU s d 0 = q at *
  unfold Dig at hd
  go_enter Try.func130, Try.ntmps130
  go_wp2_with (first
    | (go_at_call 120; refine (Q _).mono ?_; rintro e w1 ⟨rfl, hb1⟩; have hB1 : Below w.heap.size w w1 := Below.trans (by repeat' (first | exact Below.refl _ _ | assumption | refine Below.alloc ?_ (by first | omega | (simp; done) | (simp; omega)) _ | refine Below.drew ?_ | refine Below.setCell ?_ (by first | omega | (simp; done) | (simp; omega)) _)) (hb1.mono (by first | omega | (simp; done) | (simp; omega))); have hz1 := hB1.size; clear hb1)
    | (go_at_call 125; refine (L _).mono ?_; rintro e w2 ⟨rfl, hb2⟩; have hB2 : Below w.heap.size w w2 := Below.trans (by repeat' (first | exact Below.refl _ _ | assumption | refine Below.alloc ?_ (by first | omega | (simp; done) | (simp; omega)) _ | refine Below.drew ?_ | refine Below.setCell ?_ (by first | omega | (simp; done) | (simp; omega)) _)) (hb2.mono (by first | omega | (simp; done) | (simp; omega))); have hz2 := hB2.size; clear hb2)
    | (go_at_call 121; refine (l01Floor_any _ _ _ (by omega) (by omega) (by omega) (by omega)).mono ?_; rintro e w' ⟨rfl, rfl⟩))
  go_ret
  exact ⟨rfl, by repeat' (first | exact Below.refl _ _ | assumption | refine Below.alloc ?_ (by first | omega | (simp; done) | (simp; omega)) _ | refine Below.drew ?_ | refine Below.setCell ?_ (by first | omega | (simp; done) | (simp; omega)) _)⟩
end Go.Proofs.Ytfkbifoojmnhcaa
