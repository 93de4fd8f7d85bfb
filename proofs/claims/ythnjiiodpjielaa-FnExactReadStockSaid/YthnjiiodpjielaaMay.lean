/- Figures of a scale at a point (layers 2, 5, 6): IsFigure, checkPlace, MayBeAt. No condition. -/
import Derived.Test.YthnjiiodpjielaaPos2
namespace Go.Proofs.Ythnjiiodpjielaa
open Go.RowKit
set_option linter.unusedVariables false
set_option linter.unusedSimpArgs false

def figB (d t : Int) : Bool := inB d 1000 9999 && inB t (-30) 30
theorem figB_iff {d t : Int} : figB d t = true ↔ Dig d ∧ -30 ≤ t ∧ t ≤ 30 := by simp [figB, inB_iff, Dig]
theorem figB_dig {d t : Int} (h : figB d t = true) : Dig d ∧ -1000000 ≤ t ∧ t ≤ 1000000 := by
  have := figB_iff.1 h
  exact ⟨this.1, by omega, by omega⟩
/-- the code of a figure on a scale -/
def ckShown (s d t : Int) : Int := if figB d t = true then (if inB s 0 5 = true then (if s = 5 ∧ t ≠ 0 then 2 else 0) else 2) else 1
def ckPlace (s len d t : Int) : Int := if ckShown s d t = 0 then (if inB len 1 100000 = true then 0 else 2) else ckShown s d t
def ptB (s len point eye : Int) : Bool := inB s 0 5 && inB len 1 100000 && inB point 0 len && inB eye 0 200
def mayB (s d t len point eye : Int) : Bool := decide (plL s d t len - eye ≤ point) && decide (point ≤ plU s d t len + eye)
set_option maxHeartbeats 400000 in
theorem iIsFigure_any (d t : Int) (w : World) :
    Calls Try.prog 104 #[.agg #[.int .i64 d, .int .i64 t]] w fun e w' => e = .returned (.bool (figB d t)) ∧ w.alloc (.cells #[.int .i64 d, .int .i64 t] 43) = w' := by
  go_enter Try.func104, Try.ntmps104
  go_wp2_with (first
    | (go_at_call 66; refine (within_any _ _ _ _).mono ?_; rintro e w' ⟨rfl, rfl⟩))
  all_goals go_ret
  all_goals (refine ⟨endBool ?_, rfl⟩)
  all_goals simp_all [figB]
set_option maxHeartbeats 400000 in
theorem sIsFigure_any (d t : Int) (w : World) :
    Calls Try.prog 99 #[.agg #[.int .i64 d, .int .i64 t]] w fun e w' => e = .returned (.bool (figB d t)) ∧ w.alloc (.cells #[.int .i64 d, .int .i64 t] 43) = w' := by
  go_enter Try.func99, Try.ntmps99
  go_wp2_with (first
    | (go_at_call 70; refine (l01In_any _ _ _ _).mono ?_; rintro e w' ⟨rfl, rfl⟩))
  all_goals go_ret
  all_goals (refine ⟨endBool ?_, rfl⟩)
  all_goals simp_all [figB]
set_option maxHeartbeats 400000 in
theorem areFigures_one (d t : Int) (b : Nat) (w : World) (c0 : w.cell? ⟨b, 0, none⟩ = some (.int .i64 d)) (c1 : w.cell? ⟨b, 1, none⟩ = some (.int .i64 t)) :
    Calls Try.prog 142 #[.slice (some ⟨b, 0, none⟩) 1 1] w fun e w' => e = .returned (.bool (figB d t)) ∧ Below w.heap.size w w' := by
  have hb := World.block_lt_of_cell? w _ c0
  have hb0 : b < w.heap.size := by simpa using hb
  have hb1 : b < w.heap.size + 1 := by omega
  go_enter Try.func142, Try.ntmps142
  go_wp2
  go_loopw [7] (fun i wr => ∃ k : Nat, k ≤ 1 ∧ i = .int .i64 k ∧ Below w.heap.size w wr ∧ (k = 1 → figB d t = true)) (fun i _ => 1 - (intOf i).toNat)
  case atStart => exact ⟨0, by omega, rfl, Below.refl _ _, fun h => absurd h (by omega)⟩
  case round =>
    obtain ⟨k, hk, rfl, hB, hf⟩ := hrel
    by_cases hlt : k < 1
    · obtain rfl : k = 0 := by omega
      have q0 := (hB.cell (p := ⟨b, 0, none⟩) hb0).trans c0
      have q1 := (hB.cell (p := ⟨b, 1, none⟩) hb0).trans c1
      have hz := hB.size
      have g0 : b < wr.heap.size := by omega
      clear c0 c1 hf
      cases h : figB d t
      · go_wp2_with (first
    | (go_at_call 104; refine (iIsFigure_any _ _ _).mono ?_; rintro e w' ⟨rfl, rfl⟩))
        go_ret
        exact ⟨endBool h.symm, by repeat' (first | exact Below.refl _ _ | assumption | refine Below.alloc ?_ (by first | omega | (simp; done) | (simp; omega)) _ | refine Below.drew ?_ | refine Below.setCell ?_ (by first | omega | (simp; done) | (simp; omega)) _)⟩
      · go_wp2_with (first
    | (go_at_call 104; refine (iIsFigure_any _ _ _).mono ?_; rintro e w' ⟨rfl, rfl⟩))
        go_roundw
        case rel => exact ⟨1, by omega, by go_num, by repeat' (first | exact Below.refl _ _ | assumption | refine Below.alloc ?_ (by first | omega | (simp; done) | (simp; omega)) _ | refine Below.drew ?_ | refine Below.setCell ?_ (by first | omega | (simp; done) | (simp; omega)) _), by first | exact fun _ => h | trivial⟩
        case measure => simp [intOf]
    · obtain rfl : k = 1 := by omega
      go_wp2
      go_ret
      exact ⟨endBool (by simp_all), hB⟩
set_option maxHeartbeats 400000 in
theorem checkShown_one (s d t : Int) (b : Nat) (w : World) (c0 : w.cell? ⟨b, 0, none⟩ = some (.int .i64 d)) (c1 : w.cell? ⟨b, 1, none⟩ = some (.int .i64 t)) :
    Calls Try.prog 139 #[.int .i64 s, .slice (some ⟨b, 0, none⟩) 1 1] w fun e w' => e = .returned (.int .i64 (ckShown s d t)) ∧ Below w.heap.size w w' := by
  have hb := World.block_lt_of_cell? w _ c0
  have hb0 : b < w.heap.size := by simpa using hb
  have L := fun W a b' => areFigures_one d t b W a b'
  by_cases h : figB d t = true
  · by_cases hs : inB s 0 5 = true
    · have HV := Lib.hid (show ckShown s d t = if s = 5 ∧ t ≠ 0 then 2 else 0 by rw [ckShown, if_pos h, if_pos hs])
      rw [h] at L
      go_enter Try.func139, Try.ntmps139
      go_wp2_with (first
        | (go_at_call 142; refine (L _ (by assumption) (by assumption)).mono ?_; rintro e w1 ⟨rfl, hb1⟩)
        | (go_at_call 64; refine (iIsScale_any _ _).mono ?_; rintro e w' ⟨rfl, rfl⟩))
      have d0 := (hb1.cell (p := ⟨b, 0, none⟩) hb0).trans c0
      have d1 := (hb1.cell (p := ⟨b, 1, none⟩) hb0).trans c1
      have hz1 := hb1.size
      have C0 := Lib.hid c0
      have C1 := Lib.hid c1
      clear c0 c1 L
      have c0 := C0.out
      have c1 := C1.out
      go_loopw [15] (fun i wr => ∃ k : Nat, k ≤ 1 ∧ i = .int .i64 k ∧ Below w.heap.size w wr ∧ (k = 1 → ¬(s = 5 ∧ t ≠ 0))) (fun i _ => 1 - (intOf i).toNat)
      case atStart => exact ⟨0, by omega, rfl, hb1, fun h => absurd h (by omega)⟩
      case round =>
        obtain ⟨k, hk, rfl, hB, hf⟩ := hrel
        by_cases hlt : k < 1
        · obtain rfl : k = 0 := by omega
          have q0 := (hB.cell (p := ⟨b, 0, none⟩) hb0).trans c0
          have q1 := (hB.cell (p := ⟨b, 1, none⟩) hb0).trans c1
          have hz := hB.size
          have g0 : b < wr.heap.size := by omega
          have g1 : b < wr.heap.size + 1 := by omega
          clear d0 d1 hf
          by_cases h5 : s = 5
          · subst h5
            by_cases ht : t = 0
            · subst ht
              go_wp2
              go_roundw
              case rel => exact ⟨1, by omega, by go_num, by repeat' (first | exact Below.refl _ _ | assumption | refine Below.alloc ?_ (by first | omega | (simp; done) | (simp; omega)) _ | refine Below.drew ?_ | refine Below.setCell ?_ (by first | omega | (simp; done) | (simp; omega)) _), by simp⟩
              case measure => simp [intOf]
            · go_wp2
              go_ret
              exact ⟨endInt (by rw [HV.out]; simp [ht]), by repeat' (first | exact Below.refl _ _ | assumption | refine Below.alloc ?_ (by first | omega | (simp; done) | (simp; omega)) _ | refine Below.drew ?_ | refine Below.setCell ?_ (by first | omega | (simp; done) | (simp; omega)) _)⟩
          · go_wp2
            go_roundw
            case rel => exact ⟨1, by omega, by go_num, by repeat' (first | exact Below.refl _ _ | assumption | refine Below.alloc ?_ (by first | omega | (simp; done) | (simp; omega)) _ | refine Below.drew ?_ | refine Below.setCell ?_ (by first | omega | (simp; done) | (simp; omega)) _), fun _ hh => h5 hh.1⟩
            case measure => simp [intOf]
        · obtain rfl : k = 1 := by omega
          go_wp2
          go_ret
          exact ⟨endInt (by rw [HV.out, if_neg (hf (by trivial))]), hB⟩
    · have hs' : inB s 0 5 = false := by simpa using hs
      have HV := Lib.hid (show ckShown s d t = 2 by rw [ckShown, if_pos h, if_neg hs])
      rw [h] at L
      go_enter Try.func139, Try.ntmps139
      go_wp2_with (first
        | (go_at_call 142; refine (L _ (by assumption) (by assumption)).mono ?_; rintro e w1 ⟨rfl, hb1⟩)
        | (go_at_call 64; refine (iIsScale_any _ _).mono ?_; rintro e w' ⟨rfl, rfl⟩))
      go_ret
      exact ⟨endInt HV.out.symm, by repeat' (first | exact Below.refl _ _ | assumption | refine Below.alloc ?_ (by first | omega | (simp; done) | (simp; omega)) _ | refine Below.drew ?_ | refine Below.setCell ?_ (by first | omega | (simp; done) | (simp; omega)) _)⟩
  · have h' : figB d t = false := by simpa using h
    have HV := Lib.hid (show ckShown s d t = 1 by rw [ckShown, if_neg h])
    rw [h'] at L
    go_enter Try.func139, Try.ntmps139
    go_wp2_with (first
      | (go_at_call 142; refine (L _ (by assumption) (by assumption)).mono ?_; rintro e w1 ⟨rfl, hb1⟩))
    go_ret
    exact ⟨endInt HV.out.symm, by repeat' (first | exact Below.refl _ _ | assumption | refine Below.alloc ?_ (by first | omega | (simp; done) | (simp; omega)) _ | refine Below.drew ?_ | refine Below.setCell ?_ (by first | omega | (simp; done) | (simp; omega)) _)⟩
set_option maxHeartbeats 400000 in
theorem checkPlace_one (s len d t c : Int) (b : Nat) (w : World) (hc : ckPlace s len d t = c) (c0 : w.cell? ⟨b, 0, none⟩ = some (.int .i64 d)) (c1 : w.cell? ⟨b, 1, none⟩ = some (.int .i64 t)) :
    Calls Try.prog 89 #[.int .i64 s, .int .i64 len, .slice (some ⟨b, 0, none⟩) 1 1] w fun e w' => e = .returned (.int .i64 c) ∧ Below w.heap.size w w' := by
  have L := fun W a b' => checkShown_one s d t b W a b'
  by_cases h : ckShown s d t = 0
  · have HV := Lib.hid (show c = if inB len 1 100000 = true then 0 else 2 by rw [← hc, ckPlace, if_pos h])
    rw [h] at L
    clear hc h
    go_enter Try.func89, Try.ntmps89
    go_wp2_with (first
      | (go_at_call 139; refine (L _ (by assumption) (by assumption)).mono ?_; rintro e w1 ⟨rfl, hb1⟩)
      | (go_at_call 65; refine (isLength_any _ _).mono ?_; rintro e w' ⟨rfl, rfl⟩))
    all_goals go_ret
    all_goals exact ⟨endInt (by rw [HV.out]; simp_all), by repeat' (first | exact Below.refl _ _ | assumption | refine Below.alloc ?_ (by first | omega | (simp; done) | (simp; omega)) _ | refine Below.drew ?_ | refine Below.setCell ?_ (by first | omega | (simp; done) | (simp; omega)) _)⟩
  · have HV := Lib.hid (show c = ckShown s d t by rw [← hc, ckPlace, if_neg h])
    generalize ckShown s d t = k at *
    clear hc
    go_enter Try.func89, Try.ntmps89
    go_wp2_with (first
      | (go_at_call 139; refine (L _ (by assumption) (by assumption)).mono ?_; rintro e w1 ⟨rfl, hb1⟩))
    go_ret
    exact ⟨endInt HV.out.symm, by repeat' (first | exact Below.refl _ _ | assumption | refine Below.alloc ?_ (by first | omega | (simp; done) | (simp; omega)) _ | refine Below.drew ?_ | refine Below.setCell ?_ (by first | omega | (simp; done) | (simp; omega)) _)⟩
set_option maxHeartbeats 400000 in
theorem isPoint_any (s len point eye : Int) (w : World) :
    Calls Try.prog 86 #[.int .i64 s, .int .i64 len, .int .i64 point, .int .i64 eye] w fun e w' => e = .returned (.bool (ptB s len point eye)) ∧ w = w' := by
  go_enter Try.func86, Try.ntmps86
  go_wp2_with (first
    | (go_at_call 64; refine (iIsScale_any _ _).mono ?_; rintro e w' ⟨rfl, rfl⟩)
    | (go_at_call 65; refine (isLength_any _ _).mono ?_; rintro e w' ⟨rfl, rfl⟩)
    | (go_at_call 66; refine (within_any _ _ _ _).mono ?_; rintro e w' ⟨rfl, rfl⟩))
  all_goals go_ret
  all_goals (refine ⟨endBool ?_, rfl⟩)
  all_goals simp_all [ptB]
set_option maxHeartbeats 400000 in
theorem l06Code_any (s len point eye : Int) (w : World) :
    Calls Try.prog 83 #[.int .i64 s, .int .i64 len, .int .i64 point, .int .i64 eye] w fun e w' => e = .returned (.int .i64 (if ptB s len point eye = true then 0 else 2)) ∧ w = w' := by
  go_enter Try.func83, Try.ntmps83
  go_wp2_with (first
    | (go_at_call 68; refine (sIsScale_any _ _).mono ?_; rintro e w' ⟨rfl, rfl⟩)
    | (go_at_call 69; refine (l05Length_any _ _).mono ?_; rintro e w' ⟨rfl, rfl⟩)
    | (go_at_call 70; refine (l01In_any _ _ _ _).mono ?_; rintro e w' ⟨rfl, rfl⟩))
  all_goals go_ret
  all_goals (refine ⟨endInt ?_, rfl⟩)
  all_goals simp_all [ptB]
set_option maxHeartbeats 400000 in
theorem l05Code_any (s d t : Int) (w : World) :
    Calls Try.prog 96 #[.int .i64 s, .agg #[.int .i64 d, .int .i64 t]] w fun e w' => e = .returned (.int .i64 (ckShown s d t)) ∧ Below w.heap.size w w' := by
  go_enter Try.func96, Try.ntmps96
  go_wp2_with (first
    | (go_at_call 99; refine (sIsFigure_any _ _ _).mono ?_; rintro e w' ⟨rfl, rfl⟩)
    | (go_at_call 68; refine (sIsScale_any _ _).mono ?_; rintro e w' ⟨rfl, rfl⟩))
  all_goals go_ret
  all_goals (refine ⟨endInt ?_, by repeat' (first | exact Below.refl _ _ | assumption | refine Below.alloc ?_ (by first | omega | (simp; done) | (simp; omega)) _ | refine Below.drew ?_ | refine Below.setCell ?_ (by first | omega | (simp; done) | (simp; omega)) _)⟩)
  all_goals simp_all [ckShown]
set_option maxHeartbeats 400000 in
theorem mayBe_any (p q point eye : Int) (w : World) (h1 : -400000 ≤ p) (h2 : p ≤ 400000) (h3 : -400000 ≤ q) (h4 : q ≤ 400000) (h5 : 0 ≤ eye) (h6 : eye ≤ 200) :
    Calls Try.prog 91 #[.agg #[.int .i64 p, .int .i64 q], .int .i64 point, .int .i64 eye] w fun e w' => e = .returned (.bool (decide (p - eye ≤ point) && decide (point ≤ q + eye))) ∧ w.alloc (.cells #[.int .i64 p, .int .i64 q] 53) = w' := by
  go_enter Try.func91, Try.ntmps91
  go_wp2
  all_goals go_ret
  all_goals (refine ⟨endBool ?_, rfl⟩)
  all_goals (first | (simp_all; done) | (simp_all; omega))
set_option maxHeartbeats 400000 in
theorem l06May_any (s d t len point eye : Int) (w : World) (hd : Dig d) (g1 : -1000000 ≤ t) (g2 : t ≤ 1000000) (h1 : 1 ≤ len) (h2 : len ≤ 100000) (h5 : 0 ≤ eye) (h6 : eye ≤ 200) :
    Calls Try.prog 100 #[.int .i64 s, .agg #[.int .i64 d, .int .i64 t], .int .i64 len, .int .i64 point, .int .i64 eye] w fun e w' => e = .returned (.bool (mayB s d t len point eye)) ∧ Below w.heap.size w w' := by
  have L := fun W => l05Position_any s d t W hd g1 g2
  have B := p_bd (s := s) (t := t) hd
  have M := fun W => l05Place_any (pL s d t) (pU s d t) len W B.1 B.2.1 B.2.2 h1 h2
  have P := pl_bd (s := s) (t := t) hd h1 h2
  rw [show pL s d t * len / 1048576 = plL s d t len from rfl, show ceilDiv (pU s d t * len) 1048576 = plU s d t len from rfl] at M
  have HV := Lib.hid (show mayB s d t len point eye = (decide (plL s d t len - eye ≤ point) && decide (point ≤ plU s d t len + eye)) from rfl)
  generalize plL s d t len = x at *
  generalize plU s d t len = y at *
  generalize pL s d t = p at *
  generalize pU s d t = q at *
  clear B
  unfold Dig at hd
  go_enter Try.func100, Try.ntmps100
  go_wp2_with (first
    | (go_at_call 98; refine (L _).mono ?_; rintro e w1 ⟨rfl, hb1⟩; have hB1 : Below w.heap.size w w1 := Below.trans (by repeat' (first | exact Below.refl _ _ | assumption | refine Below.alloc ?_ (by first | omega | (simp; done) | (simp; omega)) _ | refine Below.drew ?_ | refine Below.setCell ?_ (by first | omega | (simp; done) | (simp; omega)) _)) (hb1.mono (by first | omega | (simp; done) | (simp; omega))); have hz1 := hB1.size; have hl1_0 : w.heap.size < w1.heap.size := Nat.lt_of_lt_of_le (by first | omega | (simp; done) | (simp; omega)) hb1.size; have q1_00 : w1.cell? ⟨w.heap.size, 0, none⟩ = some (.int .i64 d) := (by rw [hb1.cell (by first | omega | (simp; done) | (simp; omega))]; simp [go_sem, *]); have r1_00 : w1.frozen? ⟨w.heap.size, 0, none⟩ = false := (by rw [hb1.frozen (by first | omega | (simp; done) | (simp; omega))]; simp [go_sem, *]); have q1_01 : w1.cell? ⟨w.heap.size, 1, none⟩ = some (.int .i64 t) := (by rw [hb1.cell (by first | omega | (simp; done) | (simp; omega))]; simp [go_sem, *]); have r1_01 : w1.frozen? ⟨w.heap.size, 1, none⟩ = false := (by rw [hb1.frozen (by first | omega | (simp; done) | (simp; omega))]; simp [go_sem, *]); clear hb1)
    | (go_at_call 97; refine (M _).mono ?_; rintro e w2 ⟨rfl, hb2⟩; have hB2 : Below w.heap.size w w2 := Below.trans (by repeat' (first | exact Below.refl _ _ | assumption | refine Below.alloc ?_ (by first | omega | (simp; done) | (simp; omega)) _ | refine Below.drew ?_ | refine Below.setCell ?_ (by first | omega | (simp; done) | (simp; omega)) _)) (hb2.mono (by first | omega | (simp; done) | (simp; omega))); have hz2 := hB2.size; have hl2_0 : w.heap.size < w2.heap.size := Nat.lt_of_lt_of_le (by first | omega | (simp; done) | (simp; omega)) hb2.size; have q2_00 : w2.cell? ⟨w.heap.size, 0, none⟩ = some (.int .i64 d) := (by rw [hb2.cell (by first | omega | (simp; done) | (simp; omega))]; simp [go_sem, *]); have r2_00 : w2.frozen? ⟨w.heap.size, 0, none⟩ = false := (by rw [hb2.frozen (by first | omega | (simp; done) | (simp; omega))]; simp [go_sem, *]); have q2_01 : w2.cell? ⟨w.heap.size, 1, none⟩ = some (.int .i64 t) := (by rw [hb2.cell (by first | omega | (simp; done) | (simp; omega))]; simp [go_sem, *]); have r2_01 : w2.frozen? ⟨w.heap.size, 1, none⟩ = false := (by rw [hb2.frozen (by first | omega | (simp; done) | (simp; omega))]; simp [go_sem, *]); clear hb2))
  all_goals go_ret
  all_goals (refine ⟨endBool ?_, by repeat' (first | exact Below.refl _ _ | assumption | refine Below.alloc ?_ (by first | omega | (simp; done) | (simp; omega)) _ | refine Below.drew ?_ | refine Below.setCell ?_ (by first | omega | (simp; done) | (simp; omega)) _)⟩)
  all_goals (rw [HV.out]; clear HV L M; first | (simp_all; done) | (simp_all; omega))

def rMay (s d t len point eye : Int) : Bool × Int := if figB d t = true then (if (ptB s len point eye && decide (ckShown s d t = 0)) = true then (mayB s d t len point eye, 0) else (false, 2)) else (false, 1)
theorem ckPlace_bad {s len d t : Int} (h : ckPlace s len d t ≠ 0) (point eye : Int) : rMay s d t len point eye = (false, ckPlace s len d t) := by
  unfold rMay
  unfold ckPlace ckShown at h ⊢
  by_cases hf : figB d t = true
  · by_cases hs : inB s 0 5 = true
    · by_cases h5 : s = 5 ∧ t ≠ 0
      · simp [hf, hs, h5, ckShown]
      · by_cases hl : inB len 1 100000 = true
        · simp [hf, hs, h5, hl] at h
        · simp [hf, hs, h5, hl, ckShown, ptB]
    · simp [hf, hs, ckShown]
  · simp [hf]
theorem ckPlace_ok {s len d t : Int} (h : ckPlace s len d t = 0) : figB d t = true ∧ ckShown s d t = 0 := by
  have h2 : ckShown s d t = 0 := by
    unfold ckPlace at h
    split at h
    · assumption
    · exact h
  refine ⟨?_, h2⟩
  by_cases hf : figB d t = true
  · exact hf
  · rw [ckShown, if_neg hf] at h2
    omega
theorem ptB_iff {s len point eye : Int} : ptB s len point eye = true ↔ ((0 ≤ s ∧ s ≤ 5) ∧ (1 ≤ len ∧ len ≤ 100000) ∧ (0 ≤ point ∧ point ≤ len) ∧ 0 ≤ eye ∧ eye ≤ 200) := by
  simp [ptB, inB_iff, and_assoc]
set_option maxHeartbeats 400000 in
theorem iMayBeAt_any (s d t len point eye : Int) (w : World) :
    Calls Try.prog 31 #[.int .i64 s, .agg #[.int .i64 d, .int .i64 t], .int .i64 len, .int .i64 point, .int .i64 eye] w fun e w' => e = .returned (.tuple #[.bool (rMay s d t len point eye).1, .int .i64 (rMay s d t len point eye).2]) ∧ Below w.heap.size w w' := by
  by_cases hc : ckPlace s len d t = 0
  · obtain ⟨hf, hk⟩ := ckPlace_ok hc
    obtain ⟨hd, t1, t2⟩ := figB_dig hf
    by_cases hp : ptB s len point eye = true
    · have HV := Lib.hid (show rMay s d t len point eye = (mayB s d t len point eye, 0) by rw [rMay, if_pos hf, if_pos (by simp [hp, hk])])
      obtain ⟨p1, ⟨p2, p3⟩, p4, p5, p6⟩ := ptB_iff.1 hp
      have L := fun W => place_any s d t len W hd t1 t2 p2 p3
      have P := pl_bd (s := s) (t := t) hd p2 p3
      have HM := Lib.hid (show mayB s d t len point eye = (decide (plL s d t len - eye ≤ point) && decide (point ≤ plU s d t len + eye)) from rfl)
      generalize plL s d t len = x at *
      generalize plU s d t len = y at *
      clear hf hk
      go_enter Try.func31, Try.ntmps31
      go_wp2_with (first
        | (go_at_call 89; refine (checkPlace_one _ _ d t _ (w.heap.size + 1) _ hc (by simp) (by simp)).mono ?_; rintro e w1 ⟨rfl, hb1⟩; have hB1 : Below w.heap.size w w1 := Below.trans (by repeat' (first | exact Below.refl _ _ | assumption | refine Below.alloc ?_ (by first | omega | (simp; done) | (simp; omega)) _ | refine Below.drew ?_ | refine Below.setCell ?_ (by first | omega | (simp; done) | (simp; omega)) _)) (hb1.mono (by first | omega | (simp; done) | (simp; omega))); have hz1 := hB1.size; have q10 : w1.cell? ⟨w.heap.size, 0, none⟩ = some (.int .i64 d) := (by rw [hb1.cell (by simp; omega)]; simp [go_sem]); have q11 : w1.cell? ⟨w.heap.size, 1, none⟩ = some (.int .i64 t) := (by rw [hb1.cell (by simp; omega)]; simp [go_sem]); clear hb1)
        | (go_at_call 86; refine (isPoint_any _ _ _ _ _).mono ?_; rintro e w' ⟨rfl, rfl⟩)
        | (go_at_call 90; refine (L _).mono ?_; rintro e w2 ⟨rfl, hb2⟩; have hB2 : Below w.heap.size w w2 := Below.trans (by repeat' (first | exact Below.refl _ _ | assumption | refine Below.alloc ?_ (by first | omega | (simp; done) | (simp; omega)) _ | refine Below.drew ?_ | refine Below.setCell ?_ (by first | omega | (simp; done) | (simp; omega)) _)) (hb2.mono (by first | omega | (simp; done) | (simp; omega))); have hz2 := hB2.size; clear hb2)
        | (go_at_call 91; refine (mayBe_any _ _ _ _ _ (by omega) (by omega) (by omega) (by omega) (by omega) (by omega)).mono ?_; rintro e w' ⟨rfl, rfl⟩))
      go_ret2
      exact ⟨endBoolInt (by rw [HV.out, HM.out]), by repeat' (first | exact Below.refl _ _ | assumption | refine Below.alloc ?_ (by first | omega | (simp; done) | (simp; omega)) _ | refine Below.drew ?_ | refine Below.setCell ?_ (by first | omega | (simp; done) | (simp; omega)) _)⟩
    · have HV := Lib.hid (show rMay s d t len point eye = (false, 2) by rw [rMay, if_pos hf, if_neg (by simp [hp])])
      have hp' : ptB s len point eye = false := by simpa using hp
      clear hf hk hp
      go_enter Try.func31, Try.ntmps31
      go_wp2_with (first
        | (go_at_call 89; refine (checkPlace_one _ _ d t _ (w.heap.size + 1) _ hc (by simp) (by simp)).mono ?_; rintro e w1 ⟨rfl, hb1⟩; have hB1 : Below w.heap.size w w1 := Below.trans (by repeat' (first | exact Below.refl _ _ | assumption | refine Below.alloc ?_ (by first | omega | (simp; done) | (simp; omega)) _ | refine Below.drew ?_ | refine Below.setCell ?_ (by first | omega | (simp; done) | (simp; omega)) _)) (hb1.mono (by first | omega | (simp; done) | (simp; omega))); have hz1 := hB1.size; have q10 : w1.cell? ⟨w.heap.size, 0, none⟩ = some (.int .i64 d) := (by rw [hb1.cell (by simp; omega)]; simp [go_sem]); have q11 : w1.cell? ⟨w.heap.size, 1, none⟩ = some (.int .i64 t) := (by rw [hb1.cell (by simp; omega)]; simp [go_sem]); clear hb1)
        | (go_at_call 86; refine (isPoint_any _ _ _ _ _).mono ?_; rintro e w' ⟨rfl, rfl⟩))
      go_ret2
      exact ⟨endBoolInt HV.out, by repeat' (first | exact Below.refl _ _ | assumption | refine Below.alloc ?_ (by first | omega | (simp; done) | (simp; omega)) _ | refine Below.drew ?_ | refine Below.setCell ?_ (by first | omega | (simp; done) | (simp; omega)) _)⟩
  · have HV := Lib.hid (ckPlace_bad hc point eye)
    have hn := hc
    clear hc
    generalize hc : ckPlace s len d t = k at *
    go_enter Try.func31, Try.ntmps31
    go_wp2_with (first
      | (go_at_call 89; refine (checkPlace_one _ _ d t _ (w.heap.size + 1) _ hc (by simp) (by simp)).mono ?_; rintro e w1 ⟨rfl, hb1⟩; have hB1 : Below w.heap.size w w1 := Below.trans (by repeat' (first | exact Below.refl _ _ | assumption | refine Below.alloc ?_ (by first | omega | (simp; done) | (simp; omega)) _ | refine Below.drew ?_ | refine Below.setCell ?_ (by first | omega | (simp; done) | (simp; omega)) _)) (hb1.mono (by first | omega | (simp; done) | (simp; omega))); have hz1 := hB1.size; have q10 : w1.cell? ⟨w.heap.size, 0, none⟩ = some (.int .i64 d) := (by rw [hb1.cell (by simp; omega)]; simp [go_sem]); have q11 : w1.cell? ⟨w.heap.size, 1, none⟩ = some (.int .i64 t) := (by rw [hb1.cell (by simp; omega)]; simp [go_sem]); clear hb1))
    go_ret2
    exact ⟨endBoolInt HV.out, by repeat' (first | exact Below.refl _ _ | assumption | refine Below.alloc ?_ (by first | omega | (simp; done) | (simp; omega)) _ | refine Below.drew ?_ | refine Below.setCell ?_ (by first | omega | (simp; done) | (simp; omega)) _)⟩
set_option maxHeartbeats 400000 in
theorem sMayBeAt_any (s d t len point eye : Int) (w : World) :
    Calls Try.prog 37 #[.int .i64 s, .agg #[.int .i64 d, .int .i64 t], .int .i64 len, .int .i64 point, .int .i64 eye] w fun e w' => e = .returned (.tuple #[.bool (rMay s d t len point eye).1, .int .i64 (rMay s d t len point eye).2]) ∧ Below w.heap.size w w' := by
  by_cases hf : figB d t = true
  · obtain ⟨hd, t1, t2⟩ := figB_dig hf
    have hk2 : ckShown s d t = 0 ∨ ckShown s d t = 2 := by
      unfold ckShown
      rw [if_pos hf]
      split
      · split <;> simp
      · simp
    by_cases hp : ptB s len point eye = true
    · obtain ⟨p1, ⟨p2, p3⟩, p4, p5, p6⟩ := ptB_iff.1 hp
      have L := fun W => l06May_any s d t len point eye W hd t1 t2 p2 p3 p5 p6
      by_cases hk : ckShown s d t = 0
      · have HV := Lib.hid (show rMay s d t len point eye = (mayB s d t len point eye, 0) by rw [rMay, if_pos hf, if_pos (by simp [hp, hk])])
        go_enter Try.func37, Try.ntmps37
        go_wp2_with (first
          | (go_at_call 99; refine (sIsFigure_any _ _ _).mono ?_; rintro e w' ⟨rfl, rfl⟩)
          | (go_at_call 83; refine (l06Code_any _ _ _ _ _).mono ?_; rintro e w' ⟨rfl, rfl⟩)
          | (go_at_call 96; refine (l05Code_any _ _ _ _).mono ?_; rintro e w1 ⟨rfl, hb1⟩; have hB1 : Below w.heap.size w w1 := Below.trans (by repeat' (first | exact Below.refl _ _ | assumption | refine Below.alloc ?_ (by first | omega | (simp; done) | (simp; omega)) _ | refine Below.drew ?_ | refine Below.setCell ?_ (by first | omega | (simp; done) | (simp; omega)) _)) (hb1.mono (by first | omega | (simp; done) | (simp; omega))); have hz1 := hB1.size; have hl1_0 : w.heap.size < w1.heap.size := Nat.lt_of_lt_of_le (by first | omega | (simp; done) | (simp; omega)) hb1.size; have q1_00 : w1.cell? ⟨w.heap.size, 0, none⟩ = some (.int .i64 d) := (by rw [hb1.cell (by first | omega | (simp; done) | (simp; omega))]; simp [go_sem, *]); have r1_00 : w1.frozen? ⟨w.heap.size, 0, none⟩ = false := (by rw [hb1.frozen (by first | omega | (simp; done) | (simp; omega))]; simp [go_sem, *]); have q1_01 : w1.cell? ⟨w.heap.size, 1, none⟩ = some (.int .i64 t) := (by rw [hb1.cell (by first | omega | (simp; done) | (simp; omega))]; simp [go_sem, *]); have r1_01 : w1.frozen? ⟨w.heap.size, 1, none⟩ = false := (by rw [hb1.frozen (by first | omega | (simp; done) | (simp; omega))]; simp [go_sem, *]); clear hb1)
          | (go_at_call 100; refine (L _).mono ?_; rintro e w2 ⟨rfl, hb2⟩; have hB2 : Below w.heap.size w w2 := Below.trans (by repeat' (first | exact Below.refl _ _ | assumption | refine Below.alloc ?_ (by first | omega | (simp; done) | (simp; omega)) _ | refine Below.drew ?_ | refine Below.setCell ?_ (by first | omega | (simp; done) | (simp; omega)) _)) (hb2.mono (by first | omega | (simp; done) | (simp; omega))); have hz2 := hB2.size; clear hb2))
        go_ret2
        exact ⟨endBoolInt HV.out, by repeat' (first | exact Below.refl _ _ | assumption | refine Below.alloc ?_ (by first | omega | (simp; done) | (simp; omega)) _ | refine Below.drew ?_ | refine Below.setCell ?_ (by first | omega | (simp; done) | (simp; omega)) _)⟩
      · have HV := Lib.hid (show rMay s d t len point eye = (false, 2) by rw [rMay, if_pos hf, if_neg (by simp [hk])])
        have hk' : ckShown s d t = 2 := by omega
        clear hk hk2
        go_enter Try.func37, Try.ntmps37
        go_wp2_with (first
          | (go_at_call 99; refine (sIsFigure_any _ _ _).mono ?_; rintro e w' ⟨rfl, rfl⟩)
          | (go_at_call 83; refine (l06Code_any _ _ _ _ _).mono ?_; rintro e w' ⟨rfl, rfl⟩)
          | (go_at_call 96; refine (l05Code_any _ _ _ _).mono ?_; rintro e w1 ⟨rfl, hb1⟩; have hB1 : Below w.heap.size w w1 := Below.trans (by repeat' (first | exact Below.refl _ _ | assumption | refine Below.alloc ?_ (by first | omega | (simp; done) | (simp; omega)) _ | refine Below.drew ?_ | refine Below.setCell ?_ (by first | omega | (simp; done) | (simp; omega)) _)) (hb1.mono (by first | omega | (simp; done) | (simp; omega))); have hz1 := hB1.size; have hl1_0 : w.heap.size < w1.heap.size := Nat.lt_of_lt_of_le (by first | omega | (simp; done) | (simp; omega)) hb1.size; have q1_00 : w1.cell? ⟨w.heap.size, 0, none⟩ = some (.int .i64 d) := (by rw [hb1.cell (by first | omega | (simp; done) | (simp; omega))]; simp [go_sem, *]); have r1_00 : w1.frozen? ⟨w.heap.size, 0, none⟩ = false := (by rw [hb1.frozen (by first | omega | (simp; done) | (simp; omega))]; simp [go_sem, *]); have q1_01 : w1.cell? ⟨w.heap.size, 1, none⟩ = some (.int .i64 t) := (by rw [hb1.cell (by first | omega | (simp; done) | (simp; omega))]; simp [go_sem, *]); have r1_01 : w1.frozen? ⟨w.heap.size, 1, none⟩ = false := (by rw [hb1.frozen (by first | omega | (simp; done) | (simp; omega))]; simp [go_sem, *]); clear hb1))
        go_ret2
        exact ⟨endBoolInt HV.out, by repeat' (first | exact Below.refl _ _ | assumption | refine Below.alloc ?_ (by first | omega | (simp; done) | (simp; omega)) _ | refine Below.drew ?_ | refine Below.setCell ?_ (by first | omega | (simp; done) | (simp; omega)) _)⟩
    · have HV := Lib.hid (show rMay s d t len point eye = (false, 2) by rw [rMay, if_pos hf, if_neg (by simp [hp])])
      have hp' : ptB s len point eye = false := by simpa using hp
      clear hp
      go_enter Try.func37, Try.ntmps37
      go_wp2_with (first
        | (go_at_call 99; refine (sIsFigure_any _ _ _).mono ?_; rintro e w' ⟨rfl, rfl⟩)
        | (go_at_call 83; refine (l06Code_any _ _ _ _ _).mono ?_; rintro e w' ⟨rfl, rfl⟩)
        | (go_at_call 96; refine (l05Code_any _ _ _ _).mono ?_; rintro e w1 ⟨rfl, hb1⟩; have hB1 : Below w.heap.size w w1 := Below.trans (by repeat' (first | exact Below.refl _ _ | assumption | refine Below.alloc ?_ (by first | omega | (simp; done) | (simp; omega)) _ | refine Below.drew ?_ | refine Below.setCell ?_ (by first | omega | (simp; done) | (simp; omega)) _)) (hb1.mono (by first | omega | (simp; done) | (simp; omega))); have hz1 := hB1.size; have hl1_0 : w.heap.size < w1.heap.size := Nat.lt_of_lt_of_le (by first | omega | (simp; done) | (simp; omega)) hb1.size; have q1_00 : w1.cell? ⟨w.heap.size, 0, none⟩ = some (.int .i64 d) := (by rw [hb1.cell (by first | omega | (simp; done) | (simp; omega))]; simp [go_sem, *]); have r1_00 : w1.frozen? ⟨w.heap.size, 0, none⟩ = false := (by rw [hb1.frozen (by first | omega | (simp; done) | (simp; omega))]; simp [go_sem, *]); have q1_01 : w1.cell? ⟨w.heap.size, 1, none⟩ = some (.int .i64 t) := (by rw [hb1.cell (by first | omega | (simp; done) | (simp; omega))]; simp [go_sem, *]); have r1_01 : w1.frozen? ⟨w.heap.size, 1, none⟩ = false := (by rw [hb1.frozen (by first | omega | (simp; done) | (simp; omega))]; simp [go_sem, *]); clear hb1))
      go_ret2
      exact ⟨endBoolInt HV.out, by repeat' (first | exact Below.refl _ _ | assumption | refine Below.alloc ?_ (by first | omega | (simp; done) | (simp; omega)) _ | refine Below.drew ?_ | refine Below.setCell ?_ (by first | omega | (simp; done) | (simp; omega)) _)⟩
  · have hf' : figB d t = false := by simpa using hf
    have HV := Lib.hid (show rMay s d t len point eye = (false, 1) by rw [rMay, if_neg hf])
    clear hf
    go_enter Try.func37, Try.ntmps37
    go_wp2_with (first
      | (go_at_call 99; refine (sIsFigure_any _ _ _).mono ?_; rintro e w' ⟨rfl, rfl⟩))
    go_ret2
    exact ⟨endBoolInt HV.out, by repeat' (first | exact Below.refl _ _ | assumption | refine Below.alloc ?_ (by first | omega | (simp; done) | (simp; omega)) _ | refine Below.drew ?_ | refine Below.setCell ?_ (by first | omega | (simp; done) | (simp; omega)) _)⟩
end Go.Proofs.Ythnjiiodpjielaa
