/- Figures of a scale at a point (layers 2, 5, 6): IsFigure, checkPlace, MayBeAt. No condition. -/
import Derived.Test.YtdbhlichldcnfaaPos2
namespace Go.Proofs.Ytdbhlichldcnfaa
open Go.RowKit
set_option linter.unusedVariables false
set_option linter.unusedSimpArgs false

def figB (d t : Int) : Bool := inB d 1000 9999 && inB t (-30) 30
theorem figB_iff {d t : Int} : figB d t = true ↔ Dig d ∧ -30 ≤ t ∧ t ≤ 30 := by simp [figB, inB_iff, Dig]
theorem figB_dig {d t : Int} (h : figB d t = true) : Dig d ∧ -1000000 ≤ t ∧ t ≤ 1000000 := by
  have := figB_iff.1 h
  exact ⟨this.1, by omega, by omega⟩
/-- the code of a figure on a scale -/
def ckShown (s d t : Int) : Int := if figB d t = true then (if inB s 0 5 = true then (if s = 5 ∧ t ≠ 0 then 2 else 0) else 2) else 1
def ckPlace (s len d t : Int) : Int := if ckShown s d t = 0 then (if inB len 1 100000 = true then 0 else 2) else ckShown s d t
def ptB (s len point eye : Int) : Bool := inB s 0 5 && inB len 1 100000 && inB point 0 len && inB eye 0 200
def mayB (s d t len point eye : Int) : Bool := decide (plL s d t len - eye ≤ point) && decide (point ≤ plU s d t len + eye)
set_option maxHeartbeats 400000 in
theorem iIsFigure_any (d t : Int) (w : World) :
    Calls Try.prog 73 #[.agg #[.int .i64 d, .int .i64 t]] w fun e w' => e = .returned (.bool (figB d t)) ∧ w.alloc (.cells #[.int .i64 d, .int .i64 t] 38) = w' := by
  go_enter Try.func73, Try.ntmps73
  go_wp2_with (first
    | (go_at_call 63; refine (within_any _ _ _ _).mono ?_; rintro e w' ⟨rfl, rfl⟩))
  all_goals go_ret
  all_goals (refine ⟨endBool ?_, rfl⟩)
  all_goals simp_all [figB]
set_option maxHeartbeats 400000 in
theorem sIsFigure_any (d t : Int) (w : World) :
    Calls Try.prog 68 #[.agg #[.int .i64 d, .int .i64 t]] w fun e w' => e = .returned (.bool (figB d t)) ∧ w.alloc (.cells #[.int .i64 d, .int .i64 t] 38) = w' := by
  go_enter Try.func68, Try.ntmps68
  go_wp2_with (first
    | (go_at_call 65; refine (l01In_any _ _ _ _).mono ?_; rintro e w' ⟨rfl, rfl⟩))
  all_goals go_ret
  all_goals (refine ⟨endBool ?_, rfl⟩)
  all_goals simp_all [figB]
set_option maxHeartbeats 400000 in
theorem areFigures_one (d t : Int) (b : Nat) (w : World) (c0 : w.cell? ⟨b, 0, none⟩ = some (.int .i64 d)) (c1 : w.cell? ⟨b, 1, none⟩ = some (.int .i64 t)) :
    Calls Try.prog 127 #[.slice (some ⟨b, 0, none⟩) 1 1] w fun e w' => e = .returned (.bool (figB d t)) ∧ Below w.heap.size w w' := by
  have hb := World.block_lt_of_cell? w _ c0
  have hb0 : b < w.heap.size := by simpa using hb
  have hb1 : b < w.heap.size + 1 := by omega
  go_enter Try.func127, Try.ntmps127
  go_wp2
  go_loopw [7] (fun i wr => ∃ k : Nat, k ≤ 1 ∧ i = .int .i64 k ∧ Below w.heap.size w wr ∧ (k = 1 → figB d t = true)) (fun i _ => 1 - (intOf i).toNat)
  case atStart => exact ⟨0, by omega, rfl, Below.refl _ _, fun h => absurd h (by omega)⟩
  case round =>
    obtain ⟨k, hk, rfl, hB, hf⟩ := hrel
    by_cases hlt : k < 1
    · obtain rfl : k = 0 := by omega
      have q0 := (hB.cell (p := ⟨b, 0, none⟩) hb0).trans c0
      have q1 := (hB.cell (p := ⟨b, 1, none⟩) hb0).trans c1
      have hz := hB.size
      have g0 : b < wr.heap.size := by omega
      clear c0 c1 hf
      cases h : figB d t
      · go_wp2_with (first
    | (go_at_call 73; refine (iIsFigure_any _ _ _).mono ?_; rintro e w' ⟨rfl, rfl⟩))
        go_ret
        exact ⟨endBool h.symm, by repeat' (first | exact Below.refl _ _ | assumption | refine Below.alloc ?_ (by first | omega | (simp; done) | (simp; omega)) _ | refine Below.drew ?_ | refine Below.setCell ?_ (by first | omega | (simp; done) | (simp; omega)) _)⟩
      · go_wp2_with (first
    | (go_at_call 73; refine (iIsFigure_any _ _ _).mono ?_; rintro e w' ⟨rfl, rfl⟩))
        go_roundw
        case rel => exact ⟨1, by omega, by go_num, by repeat' (first | exact Below.refl _ _ | assumption | refine Below.alloc ?_ (by first | omega | (simp; done) | (simp; omega)) _ | refine Below.drew ?_ | refine Below.setCell ?_ (by first | omega | (simp; done) | (simp; omega)) _), by first | exact fun _ => h | trivial⟩
        case measure => simp [intOf]
    · obtain rfl : k = 1 := by omega
      go_wp2
      go_ret
      exact ⟨endBool (by simp_all), hB⟩
set_option maxHeartbeats 400000 in
theorem checkShown_one (s d t : Int) (b : Nat) (w : World) (c0 : w.cell? ⟨b, 0, none⟩ = some (.int .i64 d)) (c1 : w.cell? ⟨b, 1, none⟩ = some (.int .i64 t)) :
    Calls Try.prog 112 #[.int .i64 s, .slice (some ⟨b, 0, none⟩) 1 1] w fun e w' => e = .returned (.int .i64 (ckShown s d t)) ∧ Below w.heap.size w w' := by
  have hb := World.block_lt_of_cell? w _ c0
  have hb0 : b < w.heap.size := by simpa using hb
  have L := fun W a b' => areFigures_one d t b W a b'
  by_cases h : figB d t = true
  · by_cases hs : inB s 0 5 = true
    · have HV := Lib.hid (show ckShown s d t = if s = 5 ∧ t ≠ 0 then 2 else 0 by rw [ckShown, if_pos h, if_pos hs])
      rw [h] at L
      go_enter Try.func112, Try.ntmps112
      go_wp2_with (first
        | (go_at_call 127; refine (L _ (by assumption) (by assumption)).mono ?_; rintro e w1 ⟨rfl, hb1⟩)
        | (go_at_call 74; refine (iIsScale_any _ _).mono ?_; rintro e w' ⟨rfl, rfl⟩))
      have d0 := (hb1.cell (p := ⟨b, 0, none⟩) hb0).trans c0
      have d1 := (hb1.cell (p := ⟨b, 1, none⟩) hb0).trans c1
      have hz1 := hb1.size
      have C0 := Lib.hid c0
      have C1 := Lib.hid c1
      clear c0 c1 L
      have c0 := C0.out
      have c1 := C1.out
      go_loopw [15] (fun i wr => ∃ k : Nat, k ≤ 1 ∧ i = .int .i64 k ∧ Below w.heap.size w wr ∧ (k = 1 → ¬(s = 5 ∧ t ≠ 0))) (fun i _ => 1 - (intOf i).toNat)
      case atStart => exact ⟨0, by omega, rfl, hb1, fun h => absurd h (by omega)⟩
      case round =>
        obtain ⟨k, hk, rfl, hB, hf⟩ := hrel
        by_cases hlt : k < 1
        · obtain rfl : k = 0 := by omega
          have q0 := (hB.cell (p := ⟨b, 0, none⟩) hb0).trans c0
          have q1 := (hB.cell (p := ⟨b, 1, none⟩) hb0).trans c1
          have hz := hB.size
          have g0 : b < wr.heap.size := by omega
          have g1 : b < wr.heap.size + 1 := by omega
          clear d0 d1 hf
          by_cases h5 : s = 5
          · subst h5
            by_cases ht : t = 0
            · subst ht
              go_wp2
              go_roundw
              case rel => exact ⟨1, by omega, by go_num, by repeat' (first | exact Below.refl _ _ | assumption | refine Below.alloc ?_ (by first | omega | (simp; done) | (simp; omega)) _ | refine Below.drew ?_ | refine Below.setCell ?_ (by first | omega | (simp; done) | (simp; omega)) _), by simp⟩
              case measure => simp [intOf]
            · go_wp2
              go_ret
              exact ⟨endInt (by rw [HV.out]; simp [ht]), by repeat' (first | exact Below.refl _ _ | assumption | refine Below.alloc ?_ (by first | omega | (simp; done) | (simp; omega)) _ | refine Below.drew ?_ | refine Below.setCell ?_ (by first | omega | (simp; done) | (simp; omega)) _)⟩
          · go_wp2
            go_roundw
            case rel => exact ⟨1, by omega, by go_num, by repeat' (first | exact Below.refl _ _ | assumption | refine Below.alloc ?_ (by first | omega | (simp; done) | (simp; omega)) _ | refine Below.drew ?_ | refine Below.setCell ?_ (by first | omega | (simp; done) | (simp; omega)) _), fun _ hh => h5 hh.1⟩
            case measure => simp [intOf]
        · obtain rfl : k = 1 := by omega
          go_wp2
          go_ret
          exact ⟨endInt (by rw [HV.out, if_neg (hf (by trivial))]), hB⟩
    · have hs' : inB s 0 5 = false := by simpa using hs
      have HV := Lib.hid (show ckShown s d t = 2 by rw [ckShown, if_pos h, if_neg hs])
      rw [h] at L
      go_enter Try.func112, Try.ntmps112
      go_wp2_with (first
        | (go_at_call 127; refine (L _ (by assumption) (by assumption)).mono ?_; rintro e w1 ⟨rfl, hb1⟩)
        | (go_at_call 74; refine (iIsScale_any _ _).mono ?_; rintro e w' ⟨rfl, rfl⟩))
      go_ret
      exact ⟨endInt HV.out.symm, by repeat' (first | exact Below.refl _ _ | assumption | refine Below.alloc ?_ (by first | omega | (simp; done) | (simp; omega)) _ | refine Below.drew ?_ | refine Below.setCell ?_ (by first | omega | (simp; done) | (simp; omega)) _)⟩
  · have h' : figB d t = false := by simpa using h
    have HV := Lib.hid (show ckShown s d t = 1 by rw [ckShown, if_neg h])
    rw [h'] at L
    go_enter Try.func112, Try.ntmps112
    go_wp2_with (first
      | (go_at_call 127; refine (L _ (by assumption) (by assumption)).mono ?_; rintro e w1 ⟨rfl, hb1⟩))
    go_ret
    exact ⟨endInt HV.out.symm, by repeat' (first | exact Below.refl _ _ | assumption | refine Below.alloc ?_ (by first | omega | (simp; done) | (simp; omega)) _ | refine Below.drew ?_ | refine Below.setCell ?_ (by first | omega | (simp; done) | (simp; omega)) _)⟩
set_option maxHeartbeats 400000 in
theorem checkPlace_one (s len d t c : Int) (b : Nat) (w : World) (hc : ckPlace s len d t = c) (c0 : w.cell? ⟨b, 0, none⟩ = some (.int .i64 d)) (c1 : w.cell? ⟨b, 1, none⟩ = some (.int .i64 t)) :
    Calls Try.prog 95 #[.int .i64 s, .int .i64 len, .slice (some ⟨b, 0, none⟩) 1 1] w fun e w' => e = .returned (.int .i64 c) ∧ Below w.heap.size w w' := by
  have L := fun W a b' => checkShown_one s d t b W a b'
  by_cases h : ckShown s d t = 0
  · have HV := Lib.hid (show c = if inB len 1 100000 = true then 0 else 2 by rw [← hc, ckPlace, if_pos h])
    rw [h] at L
    clear hc h
    go_enter Try.func95, Try.ntmps95
    go_wp2_with (first
      | (go_at_call 112; refine (L _ (by assumption) (by assumption)).mono ?_; rintro e w1 ⟨rfl, hb1⟩)
      | (go_at_call 96; refine (isLength_any _ _).mono ?_; rintro e w' ⟨rfl, rfl⟩))
    all_goals go_ret
    all_goals exact ⟨endInt (by rw [HV.out]; simp_all), by repeat' (first | exact Below.refl _ _ | assumption | refine Below.alloc ?_ (by first | omega | (simp; done) | (simp; omega)) _ | refine Below.drew ?_ | refine Below.setCell ?_ (by first | omega | (simp; done) | (simp; omega)) _)⟩
  · have HV := Lib.hid (show c = ckShown s d t by rw [← hc, ckPlace, if_neg h])
    generalize ckShown s d t = k at *
    clear hc
    go_enter Try.func95, Try.ntmps95
    go_wp2_with (first
      | (go_at_call 112; refine (L _ (by assumption) (by assumption)).mono ?_; rintro e w1 ⟨rfl, hb1⟩))
    go_ret
    exact ⟨endInt HV.out.symm, by repeat' (first | exact Below.refl _ _ | assumption | refine Below.alloc ?_ (by first | omega | (simp; done) | (simp; omega)) _ | refine Below.drew ?_ | refine Below.setCell ?_ (by first | omega | (simp; done) | (simp; omega)) _)⟩

def rMay (s d t len point eye : Int) : Bool × Int := if figB d t = true then (if (ptB s len point eye && decide (ckShown s d t = 0)) = true then (mayB s d t len point eye, 0) else (false, 2)) else (false, 1)
theorem ckPlace_bad {s len d t : Int} (h : ckPlace s len d t ≠ 0) (point eye : Int) : rMay s d t len point eye = (false, ckPlace s len d t) := by
  unfold rMay
  unfold ckPlace ckShown at h ⊢
  by_cases hf : figB d t = true
  · by_cases hs : inB s 0 5 = true
    · by_cases h5 : s = 5 ∧ t ≠ 0
      · simp [hf, hs, h5, ckShown]
      · by_cases hl : inB len 1 100000 = true
        · simp [hf, hs, h5, hl] at h
        · simp [hf, hs, h5, hl, ckShown, ptB]
    · simp [hf, hs, ckShown]
  · simp [hf]
theorem ckPlace_ok {s len d t : Int} (h : ckPlace s len d t = 0) : figB d t = true ∧ ckShown s d t = 0 := by
  have h2 : ckShown s d t = 0 := by
    unfold ckPlace at h
    split at h
    · assumption
    · exact h
  refine ⟨?_, h2⟩
  by_cases hf : figB d t = true
  · exact hf
  · rw [ckShown, if_neg hf] at h2
    omega
theorem ptB_iff {s len point eye : Int} : ptB s len point eye = true ↔ ((0 ≤ s ∧ s ≤ 5) ∧ (1 ≤ len ∧ len ≤ 100000) ∧ (0 ≤ point ∧ point ≤ len) ∧ 0 ≤ eye ∧ eye ≤ 200) := by
  simp [ptB, inB_iff, and_assoc]
end Go.Proofs.Ytdbhlichldcnfaa
