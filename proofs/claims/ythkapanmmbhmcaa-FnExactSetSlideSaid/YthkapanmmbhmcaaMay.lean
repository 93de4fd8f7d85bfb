/- Figures of a scale at a point (layers 2, 5, 6): IsFigure, checkPlace, MayBeAt. No condition. -/
import Derived.Test.YthkapanmmbhmcaaPos2
namespace Go.Proofs.Ythkapanmmbhmcaa
open Go.RowKit
set_option linter.unusedVariables false
set_option linter.unusedSimpArgs false

def figB (d t : Int) : Bool := inB d 1000 9999 && inB t (-30) 30
theorem figB_iff {d t : Int} : figB d t = true ↔ Dig d ∧ -30 ≤ t ∧ t ≤ 30 := by simp [figB, inB_iff, Dig]
theorem figB_dig {d t : Int} (h : figB d t = true) : Dig d ∧ -1000000 ≤ t ∧ t ≤ 1000000 := by
  have := figB_iff.1 h
  exact ⟨this.1, by omega, by omega⟩
/-- the code of a figure on a scale -/
def ckShown (s d t : Int) : Int := if figB d t = true then (if inB s 0 5 = true then (if s = 5 ∧ t ≠ 0 then 2 else 0) else 2) else 1
def ckPlace (s len d t : Int) : Int := if ckShown s d t = 0 then (if inB len 1 100000 = true then 0 else 2) else ckShown s d t
def ptB (s len point eye : Int) : Bool := inB s 0 5 && inB len 1 100000 && inB point 0 len && inB eye 0 200
def mayB (s d t len point eye : Int) : Bool := decide (plL s d t len - eye ≤ point) && decide (point ≤ plU s d t len + eye)
set_option maxHeartbeats 400000 in
theorem iIsFigure_any (d t : Int) (w : World) :
    Calls Try.prog 38 #[.agg #[.int .i64 d, .int .i64 t]] w fun e w' => e = .returned (.bool (figB d t)) ∧ w.alloc (.cells #[.int .i64 d, .int .i64 t] 24) = w' := by
  go_enter Try.func38, Try.ntmps38
  go_wp2_with (first
    | (go_at_call 39; refine (within_any _ _ _ _).mono ?_; rintro e w' ⟨rfl, rfl⟩))
  all_goals go_ret
  all_goals (refine ⟨endBool ?_, rfl⟩)
  all_goals simp_all [figB]
set_option maxHeartbeats 400000 in
theorem sIsFigure_any (d t : Int) (w : World) :
    Calls Try.prog 35 #[.agg #[.int .i64 d, .int .i64 t]] w fun e w' => e = .returned (.bool (figB d t)) ∧ w.alloc (.cells #[.int .i64 d, .int .i64 t] 24) = w' := by
  go_enter Try.func35, Try.ntmps35
  go_wp2_with (first
    | (go_at_call 36; refine (l01In_any _ _ _ _).mono ?_; rintro e w' ⟨rfl, rfl⟩))
  all_goals go_ret
  all_goals (refine ⟨endBool ?_, rfl⟩)
  all_goals simp_all [figB]
set_option maxHeartbeats 400000 in
theorem isPoint_any (s len point eye : Int) (w : World) :
    Calls Try.prog 87 #[.int .i64 s, .int .i64 len, .int .i64 point, .int .i64 eye] w fun e w' => e = .returned (.bool (ptB s len point eye)) ∧ w = w' := by
  go_enter Try.func87, Try.ntmps87
  go_wp2_with (first
    | (go_at_call 52; refine (iIsScale_any _ _).mono ?_; rintro e w' ⟨rfl, rfl⟩)
    | (go_at_call 53; refine (isLength_any _ _).mono ?_; rintro e w' ⟨rfl, rfl⟩)
    | (go_at_call 39; refine (within_any _ _ _ _).mono ?_; rintro e w' ⟨rfl, rfl⟩))
  all_goals go_ret
  all_goals (refine ⟨endBool ?_, rfl⟩)
  all_goals simp_all [ptB]
set_option maxHeartbeats 400000 in
theorem l06Code_any (s len point eye : Int) (w : World) :
    Calls Try.prog 43 #[.int .i64 s, .int .i64 len, .int .i64 point, .int .i64 eye] w fun e w' => e = .returned (.int .i64 (if ptB s len point eye = true then 0 else 2)) ∧ w = w' := by
  go_enter Try.func43, Try.ntmps43
  go_wp2_with (first
    | (go_at_call 49; refine (sIsScale_any _ _).mono ?_; rintro e w' ⟨rfl, rfl⟩)
    | (go_at_call 50; refine (l05Length_any _ _).mono ?_; rintro e w' ⟨rfl, rfl⟩)
    | (go_at_call 36; refine (l01In_any _ _ _ _).mono ?_; rintro e w' ⟨rfl, rfl⟩))
  all_goals go_ret
  all_goals (refine ⟨endInt ?_, rfl⟩)
  all_goals simp_all [ptB]
set_option maxHeartbeats 400000 in
theorem mayBe_any (p q point eye : Int) (w : World) (h1 : -400000 ≤ p) (h2 : p ≤ 400000) (h3 : -400000 ≤ q) (h4 : q ≤ 400000) (h5 : 0 ≤ eye) (h6 : eye ≤ 200) :
    Calls Try.prog 132 #[.agg #[.int .i64 p, .int .i64 q], .int .i64 point, .int .i64 eye] w fun e w' => e = .returned (.bool (decide (p - eye ≤ point) && decide (point ≤ q + eye))) ∧ w.alloc (.cells #[.int .i64 p, .int .i64 q] 68) = w' := by
  go_enter Try.func132, Try.ntmps132
  go_wp2
  all_goals go_ret
  all_goals (refine ⟨endBool ?_, rfl⟩)
  all_goals (first | (simp_all; done) | (simp_all; omega))
set_option maxHeartbeats 400000 in
theorem l06May_any (s d t len point eye : Int) (w : World) (hd : Dig d) (g1 : -1000000 ≤ t) (g2 : t ≤ 1000000) (h1 : 1 ≤ len) (h2 : len ≤ 100000) (h5 : 0 ≤ eye) (h6 : eye ≤ 200) :
    Calls Try.prog 84 #[.int .i64 s, .agg #[.int .i64 d, .int .i64 t], .int .i64 len, .int .i64 point, .int .i64 eye] w fun e w' => e = .returned (.bool (mayB s d t len point eye)) ∧ Below w.heap.size w w' := by
  have L := fun W => l05Position_any s d t W hd g1 g2
  have B := p_bd (s := s) (t := t) hd
  have M := fun W => l05Place_any (pL s d t) (pU s d t) len W B.1 B.2.1 B.2.2 h1 h2
  have P := pl_bd (s := s) (t := t) hd h1 h2
  rw [show pL s d t * len / 1048576 = plL s d t len from rfl, show ceilDiv (pU s d t * len) 1048576 = plU s d t len from rfl] at M
  have HV := Lib.hid (show mayB s d t len point eye = (decide (plL s d t len - eye ≤ point) && decide (point ≤ plU s d t len + eye)) from rfl)
  generalize plL s d t len = x at *
  generalize plU s d t len = y at *
  generalize pL s d t = p at *
  generalize pU s d t = q at *
  clear B
  unfold Dig at hd
  go_enter Try.func84, Try.ntmps84
  go_wp2_with (first
    | (go_at_call 99; refine (L _).mono ?_; rintro e w1 ⟨rfl, hb1⟩; have hB1 : Below w.heap.size w w1 := Below.trans (by repeat' (first | exact Below.refl _ _ | assumption | refine Below.alloc ?_ (by first | omega | (simp; done) | (simp; omega)) _ | refine Below.drew ?_ | refine Below.setCell ?_ (by first | omega | (simp; done) | (simp; omega)) _)) (hb1.mono (by first | omega | (simp; done) | (simp; omega))); have hz1 := hB1.size; have hl1_0 : w.heap.size < w1.heap.size := Nat.lt_of_lt_of_le (by first | omega | (simp; done) | (simp; omega)) hb1.size; have q1_00 : w1.cell? ⟨w.heap.size, 0, none⟩ = some (.int .i64 d) := (by rw [hb1.cell (by first | omega | (simp; done) | (simp; omega))]; simp [go_sem, *]); have r1_00 : w1.frozen? ⟨w.heap.size, 0, none⟩ = false := (by rw [hb1.frozen (by first | omega | (simp; done) | (simp; omega))]; simp [go_sem, *]); have q1_01 : w1.cell? ⟨w.heap.size, 1, none⟩ = some (.int .i64 t) := (by rw [hb1.cell (by first | omega | (simp; done) | (simp; omega))]; simp [go_sem, *]); have r1_01 : w1.frozen? ⟨w.heap.size, 1, none⟩ = false := (by rw [hb1.frozen (by first | omega | (simp; done) | (simp; omega))]; simp [go_sem, *]); clear hb1)
    | (go_at_call 128; refine (M _).mono ?_; rintro e w2 ⟨rfl, hb2⟩; have hB2 : Below w.heap.size w w2 := Below.trans (by repeat' (first | exact Below.refl _ _ | assumption | refine Below.alloc ?_ (by first | omega | (simp; done) | (simp; omega)) _ | refine Below.drew ?_ | refine Below.setCell ?_ (by first | omega | (simp; done) | (simp; omega)) _)) (hb2.mono (by first | omega | (simp; done) | (simp; omega))); have hz2 := hB2.size; have hl2_0 : w.heap.size < w2.heap.size := Nat.lt_of_lt_of_le (by first | omega | (simp; done) | (simp; omega)) hb2.size; have q2_00 : w2.cell? ⟨w.heap.size, 0, none⟩ = some (.int .i64 d) := (by rw [hb2.cell (by first | omega | (simp; done) | (simp; omega))]; simp [go_sem, *]); have r2_00 : w2.frozen? ⟨w.heap.size, 0, none⟩ = false := (by rw [hb2.frozen (by first | omega | (simp; done) | (simp; omega))]; simp [go_sem, *]); have q2_01 : w2.cell? ⟨w.heap.size, 1, none⟩ = some (.int .i64 t) := (by rw [hb2.cell (by first | omega | (simp; done) | (simp; omega))]; simp [go_sem, *]); have r2_01 : w2.frozen? ⟨w.heap.size, 1, none⟩ = false := (by rw [hb2.frozen (by first | omega | (simp; done) | (simp; omega))]; simp [go_sem, *]); clear hb2))
  all_goals go_ret
  all_goals (refine ⟨endBool ?_, by repeat' (first | exact Below.refl _ _ | assumption | refine Below.alloc ?_ (by first | omega | (simp; done) | (simp; omega)) _ | refine Below.drew ?_ | refine Below.setCell ?_ (by first | omega | (simp; done) | (simp; omega)) _)⟩)
  all_goals (rw [HV.out]; clear HV L M; first | (simp_all; done) | (simp_all; omega))

def rMay (s d t len point eye : Int) : Bool × Int := if figB d t = true then (if (ptB s len point eye && decide (ckShown s d t = 0)) = true then (mayB s d t len point eye, 0) else (false, 2)) else (false, 1)
theorem ckPlace_bad {s len d t : Int} (h : ckPlace s len d t ≠ 0) (point eye : Int) : rMay s d t len point eye = (false, ckPlace s len d t) := by
  unfold rMay
  unfold ckPlace ckShown at h ⊢
  by_cases hf : figB d t = true
  · by_cases hs : inB s 0 5 = true
    · by_cases h5 : s = 5 ∧ t ≠ 0
      · simp [hf, hs, h5, ckShown]
      · by_cases hl : inB len 1 100000 = true
        · simp [hf, hs, h5, hl] at h
        · simp [hf, hs, h5, hl, ckShown, ptB]
    · simp [hf, hs, ckShown]
  · simp [hf]
theorem ckPlace_ok {s len d t : Int} (h : ckPlace s len d t = 0) : figB d t = true ∧ ckShown s d t = 0 := by
  have h2 : ckShown s d t = 0 := by
    unfold ckPlace at h
    split at h
    · assumption
    · exact h
  refine ⟨?_, h2⟩
  by_cases hf : figB d t = true
  · exact hf
  · rw [ckShown, if_neg hf] at h2
    omega
theorem ptB_iff {s len point eye : Int} : ptB s len point eye = true ↔ ((0 ≤ s ∧ s ≤ 5) ∧ (1 ≤ len ∧ len ≤ 100000) ∧ (0 ≤ point ∧ point ≤ len) ∧ 0 ≤ eye ∧ eye ≤ 200) := by
  simp [ptB, inB_iff, and_assoc]
end Go.Proofs.Ythkapanmmbhmcaa
