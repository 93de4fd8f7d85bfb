/- Logarithms (layer 3): logarithm, l03Bits, l03Log, figureLog, l03Figure, scaled, l03Scale. No condition. -/
import Derived.Test.YtkblmcpklpmobaaMath2
import Derived.Test.YtkblmcpklpmobaaErr2
import Derived.Test.YtkblmcpklpmobaaSl
namespace Go.Proofs.Ytkblmcpklpmobaa
open Go.RowKit
set_option linter.unusedVariables false

theorem two_le {k : Nat} (h : k ≤ 20) : (2 : Int) ^ k ≤ 1048576 := by
  have := Nat.pow_le_pow_right (n := 2) (by omega) h
  have h2 : ((2 ^ k : Nat) : Int) ≤ ((2 ^ 20 : Nat) : Int) := by exact_mod_cast this
  simpa using h2
theorem endIv {v : Value} {L U a b : Int} (hv : v = .agg #[.int .i64 a, .int .i64 b]) (h1 : a = L) (h2 : b = U) : Ending.returned v = .returned (.agg #[.int .i64 L, .int .i64 U]) := by subst hv h1 h2; rfl
def IvIs (L U : Int) (w : World) (e : Ending) (w' : World) : Prop := e = .returned (.agg #[.int .i64 L, .int .i64 U]) ∧ Below w.heap.size w w'
set_option maxHeartbeats 1000000 in
theorem logarithm_any (x : Int) (w : World) (h1 : 100000000 ≤ x) (h2 : x ≤ 999999999) :
    Calls Try.prog 153 #[.int .i64 x] w (IvIs (logL x) (logU x) w) := by
  go_enter Try.func153, Try.ntmps153
  go_wp2_with fail
  go_loopw [3, 4, 9] (fun lo hi i wr => ∃ k : Nat, k ≤ 20 ∧ i = .int .i64 k ∧ lo = .int .i64 (runL k x).1 ∧ hi = .int .i64 (runU k x).1 ∧ Full wr w.heap.size 114 #[.int .i64 0, .int .i64 0] ∧ Full wr (w.heap.size + 1) 114 #[.int .i64 (runL k x).2, .int .i64 (runU k x).2] ∧ Below w.heap.size w wr) (fun _ _ i _ => 20 - (intOf i).toNat)
  case atStart => exact ⟨0, by omega, rfl, rfl, rfl, (Full.made _ _ _).block _, by simpa [runL, runU] using Full.made (w.alloc (.cells #[.int .i64 0, .int .i64 0] 114)) 114 #[.int .i64 0, .int .i64 0], by repeat' (first | exact Below.refl _ _ | assumption | refine Below.alloc ?_ (by first | omega | (simp; done) | (simp; omega)) _ | refine Below.drew ?_ | refine Below.setCell ?_ (by first | omega | (simp; done) | (simp; omega)) _)⟩
  case round =>
    obtain ⟨k, hk, rfl, rfl, rfl, hF, hG, hB⟩ := hrel
    by_cases hlt : k < 20
    · have A := runL_bd h1 h2 k
      have B := runU_bd h1 h2 k
      have T := two_le hk
      rcases hL : runL k x with ⟨a, m⟩
      rcases hU : runU k x with ⟨b, n⟩
      rw [hL] at A hG
      rw [hU] at B hG
      obtain ⟨A1, A2, A3, A4⟩ := A
      obtain ⟨B1, B2, B3, B4⟩ := B
      have qa := sq_bd A1 A2
      have qb := sq_bd B1 B2
      have cb := ceilDiv_bd (a := b * b) (b := 100000000) (by omega)
      have A4' : m < 1048576 := by omega
      have B4' : n < 1048576 := by omega
      clear A4 B4 T
      dsimp only at *
      have g0 := hG.at_ 0
      have g1 := hG.at_ 1
      simp only [List.getElem?_toArray, List.getElem?_cons_zero, List.getElem?_cons_succ] at g0 g1
      have f0 := hG.free 0
      have f1 := hG.free 1
      by_cases cL : 1000000000 ≤ a * a / 100000000 <;> by_cases cU : 1000000000 ≤ ceilDiv (b * b) 100000000
      · have HL := Lib.hid (show runL (k + 1) x = (a * a / 100000000 / 10, m * 2 + 1) by rw [runL, hL, stepL, if_pos cL, Int.mul_comm 2])
        have HU := Lib.hid (show runU (k + 1) x = (ceilDiv (ceilDiv (b * b) 100000000) 10, n * 2 + 1) by rw [runU, hU, stepU, if_pos cU, Int.mul_comm 2])
        clear hL hU
        go_wp2_with (first
          | (go_at_call 133; refine (down_any _ _ _ (by omega) (by omega) (by omega) (by omega)).mono ?_; rintro e w' ⟨rfl, rfl⟩)
          | (go_at_call 143; refine (up_any _ _ _ (by omega) (by omega) (by omega) (by omega)).mono ?_; rintro e w' ⟨rfl, rfl⟩))
        go_roundw
        case rel =>
          refine ⟨k + 1, by omega, by go_num, by rw [HL.out], by rw [HU.out], ?_, ?_, by repeat' (first | exact Below.refl _ _ | assumption | refine Below.alloc ?_ (by first | omega | (simp; done) | (simp; omega)) _ | refine Below.drew ?_ | refine Below.setCell ?_ (by first | omega | (simp; done) | (simp; omega)) _)⟩
          · repeat' (first | exact hF | refine Full.elsewhere ?_ (by simp) _)
          · rw [HL.out, HU.out]
            exact ((((hG.put 0 _).put 0 _).put 1 _).put 1 _)
        case measure => simp [intOf]; omega
      · have HL := Lib.hid (show runL (k + 1) x = (a * a / 100000000 / 10, m * 2 + 1) by rw [runL, hL, stepL, if_pos cL, Int.mul_comm 2])
        have HU := Lib.hid (show runU (k + 1) x = (ceilDiv (b * b) 100000000, n * 2) by rw [runU, hU, stepU, if_neg cU, Int.mul_comm 2])
        clear hL hU
        go_wp2_with (first
          | (go_at_call 133; refine (down_any _ _ _ (by omega) (by omega) (by omega) (by omega)).mono ?_; rintro e w' ⟨rfl, rfl⟩)
          | (go_at_call 143; refine (up_any _ _ _ (by omega) (by omega) (by omega) (by omega)).mono ?_; rintro e w' ⟨rfl, rfl⟩))
        go_roundw
        case rel =>
          refine ⟨k + 1, by omega, by go_num, by rw [HL.out], by rw [HU.out], ?_, ?_, by repeat' (first | exact Below.refl _ _ | assumption | refine Below.alloc ?_ (by first | omega | (simp; done) | (simp; omega)) _ | refine Below.drew ?_ | refine Below.setCell ?_ (by first | omega | (simp; done) | (simp; omega)) _)⟩
          · repeat' (first | exact hF | refine Full.elsewhere ?_ (by simp) _)
          · rw [HL.out, HU.out]
            exact (((hG.put 0 _).put 0 _).put 1 _)
        case measure => simp [intOf]; omega
      · have HL := Lib.hid (show runL (k + 1) x = (a * a / 100000000, m * 2) by rw [runL, hL, stepL, if_neg cL, Int.mul_comm 2])
        have HU := Lib.hid (show runU (k + 1) x = (ceilDiv (ceilDiv (b * b) 100000000) 10, n * 2 + 1) by rw [runU, hU, stepU, if_pos cU, Int.mul_comm 2])
        clear hL hU
        go_wp2_with (first
          | (go_at_call 133; refine (down_any _ _ _ (by omega) (by omega) (by omega) (by omega)).mono ?_; rintro e w' ⟨rfl, rfl⟩)
          | (go_at_call 143; refine (up_any _ _ _ (by omega) (by omega) (by omega) (by omega)).mono ?_; rintro e w' ⟨rfl, rfl⟩))
        go_roundw
        case rel =>
          refine ⟨k + 1, by omega, by go_num, by rw [HL.out], by rw [HU.out], ?_, ?_, by repeat' (first | exact Below.refl _ _ | assumption | refine Below.alloc ?_ (by first | omega | (simp; done) | (simp; omega)) _ | refine Below.drew ?_ | refine Below.setCell ?_ (by first | omega | (simp; done) | (simp; omega)) _)⟩
          · repeat' (first | exact hF | refine Full.elsewhere ?_ (by simp) _)
          · rw [HL.out, HU.out]
            exact (((hG.put 0 _).put 1 _).put 1 _)
        case measure => simp [intOf]; omega
      · have HL := Lib.hid (show runL (k + 1) x = (a * a / 100000000, m * 2) by rw [runL, hL, stepL, if_neg cL, Int.mul_comm 2])
        have HU := Lib.hid (show runU (k + 1) x = (ceilDiv (b * b) 100000000, n * 2) by rw [runU, hU, stepU, if_neg cU, Int.mul_comm 2])
        clear hL hU
        go_wp2_with (first
          | (go_at_call 133; refine (down_any _ _ _ (by omega) (by omega) (by omega) (by omega)).mono ?_; rintro e w' ⟨rfl, rfl⟩)
          | (go_at_call 143; refine (up_any _ _ _ (by omega) (by omega) (by omega) (by omega)).mono ?_; rintro e w' ⟨rfl, rfl⟩))
        go_roundw
        case rel =>
          refine ⟨k + 1, by omega, by go_num, by rw [HL.out], by rw [HU.out], ?_, ?_, by repeat' (first | exact Below.refl _ _ | assumption | refine Below.alloc ?_ (by first | omega | (simp; done) | (simp; omega)) _ | refine Below.drew ?_ | refine Below.setCell ?_ (by first | omega | (simp; done) | (simp; omega)) _)⟩
          · repeat' (first | exact hF | refine Full.elsewhere ?_ (by simp) _)
          · rw [HL.out, HU.out]
            exact ((hG.put 0 _).put 1 _)
        case measure => simp [intOf]; omega
    · obtain rfl : k = 20 := by omega
      have g0 := hG.at_ 0
      have g1 := hG.at_ 1
      have r0 := hF.at_ 0
      have r1 := hF.at_ 1
      simp only [List.getElem?_toArray, List.getElem?_cons_zero, List.getElem?_cons_succ] at g0 g1 r0 r1
      have f0 := hG.free 0
      have f1 := hG.free 1
      have s0 := hF.free 0
      have s1 := hF.free 1
      have B := runU_bd h1 h2 20
      have T := two_le hk
      have B4 : (runU 20 x).2 ≤ 1048576 := by omega
      have B3 := B.2.2.1
      clear B T
      go_wp2
      exact bodyPost_ret (v := .agg #[.int .i64 (runL 20 x).2, .int .i64 ((runU 20 x).2 + 1)]) (by simp [results, Try.results153, go_sem, r0, r1]) rfl ⟨endIv rfl rfl rfl, by repeat' (first | exact Below.refl _ _ | assumption | refine Below.alloc ?_ (by first | omega | (simp; done) | (simp; omega)) _ | refine Below.drew ?_ | refine Below.setCell ?_ (by first | omega | (simp; done) | (simp; omega)) _)⟩
set_option maxHeartbeats 1000000 in
theorem l03Bits_low (x : Int) (w : World) (h1 : 100000000 ≤ x) (h2 : x ≤ 999999999) :
    Calls Try.prog 141 #[.int .i64 x, .bool false] w fun e w' => e = .returned (.int .i64 (logL x)) ∧ w = w' := by
  go_enter Try.func141, Try.ntmps141
  go_wp2_with fail
  go_loopw [0, 5, 6] (fun v n i wr => ∃ k : Nat, k ≤ 20 ∧ v = .int .i64 (runL k x).1 ∧ n = .int .i64 (runL k x).2 ∧ i = .int .i64 k ∧ w = wr) (fun _ _ i _ => 20 - (intOf i).toNat)
  case atStart => exact ⟨0, by omega, rfl, rfl, rfl, rfl⟩
  case round =>
    obtain ⟨k, hk, rfl, rfl, rfl, rfl⟩ := hrel
    by_cases hlt : k < 20
    · have A := runL_bd h1 h2 k
      have T := two_le hk
      rcases hL : runL k x with ⟨a, m⟩
      rw [hL] at A
      obtain ⟨A1, A2, A3, A4⟩ := A
      dsimp only at A1 A2 A3 A4
      have qa := sq_bd A1 A2
      have cb := ceilDiv_bd (a := a * a) (b := 100000000) (by omega)
      have A4' : m < 1048576 := by omega
      have td : (a * a).tdiv 100000000 = a * a / 100000000 := Int.tdiv_eq_ediv_of_nonneg (by omega)
      have td2 : (a * a / 100000000).tdiv 10 = a * a / 100000000 / 10 := Int.tdiv_eq_ediv_of_nonneg (by omega)
      clear A4 T
      dsimp only at *
      by_cases cL : 1000000000 ≤ a * a / 100000000
      · have HL := Lib.hid (show runL (k + 1) x = (a * a / 100000000 / 10, 2 * m + 1) by rw [runL, hL, stepL, if_pos cL])
        clear hL
        go_wp2
        go_roundw
        case rel => exact ⟨k + 1, by omega, by rw [HL.out], by rw [HL.out], by go_num, trivial⟩
        case measure => simp [intOf]; omega
      · have HL := Lib.hid (show runL (k + 1) x = (a * a / 100000000, 2 * m) by rw [runL, hL, stepL, if_neg cL])
        clear hL
        go_wp2
        go_roundw
        case rel => exact ⟨k + 1, by omega, by rw [HL.out], by rw [HL.out], by go_num, trivial⟩
        case measure => simp [intOf]; omega
    · obtain rfl : k = 20 := by omega
      go_wp2
      go_ret
      exact ⟨rfl, rfl⟩
set_option maxHeartbeats 1000000 in
theorem l03Bits_up (x : Int) (w : World) (h1 : 100000000 ≤ x) (h2 : x ≤ 999999999) :
    Calls Try.prog 141 #[.int .i64 x, .bool true] w fun e w' => e = .returned (.int .i64 ((runU 20 x).2)) ∧ w = w' := by
  go_enter Try.func141, Try.ntmps141
  go_wp2_with fail
  go_loopw [0, 5, 6] (fun v n i wr => ∃ k : Nat, k ≤ 20 ∧ v = .int .i64 (runU k x).1 ∧ n = .int .i64 (runU k x).2 ∧ i = .int .i64 k ∧ w = wr) (fun _ _ i _ => 20 - (intOf i).toNat)
  case atStart => exact ⟨0, by omega, rfl, rfl, rfl, rfl⟩
  case round =>
    obtain ⟨k, hk, rfl, rfl, rfl, rfl⟩ := hrel
    by_cases hlt : k < 20
    · have A := runU_bd h1 h2 k
      have T := two_le hk
      rcases hL : runU k x with ⟨a, m⟩
      rw [hL] at A
      obtain ⟨A1, A2, A3, A4⟩ := A
      dsimp only at A1 A2 A3 A4
      have qa := sq_bd A1 A2
      have cb := ceilDiv_bd (a := a * a) (b := 100000000) (by omega)
      have A4' : m < 1048576 := by omega
      have td : (a * a).tdiv 100000000 = a * a / 100000000 := Int.tdiv_eq_ediv_of_nonneg (by omega)
      have td2 : (a * a / 100000000).tdiv 10 = a * a / 100000000 / 10 := Int.tdiv_eq_ediv_of_nonneg (by omega)
      clear A4 T
      dsimp only at *
      by_cases cL : 1000000000 ≤ ceilDiv (a * a) 100000000
      · have HL := Lib.hid (show runU (k + 1) x = (ceilDiv (ceilDiv (a * a) 100000000) 10, 2 * m + 1) by rw [runU, hL, stepU, if_pos cL])
        clear hL
        go_wp2_with (go_at_call 127; refine (l01Ceil_any _ _ _ (by omega) (by omega) (by omega) (by omega)).mono ?_; rintro e w' ⟨rfl, rfl⟩)
        go_roundw
        case rel => exact ⟨k + 1, by omega, by rw [HL.out], by rw [HL.out], by go_num, trivial⟩
        case measure => simp [intOf]; omega
      · have HL := Lib.hid (show runU (k + 1) x = (ceilDiv (a * a) 100000000, 2 * m) by rw [runU, hL, stepU, if_neg cL])
        clear hL
        go_wp2_with (go_at_call 127; refine (l01Ceil_any _ _ _ (by omega) (by omega) (by omega) (by omega)).mono ?_; rintro e w' ⟨rfl, rfl⟩)
        go_roundw
        case rel => exact ⟨k + 1, by omega, by rw [HL.out], by rw [HL.out], by go_num, trivial⟩
        case measure => simp [intOf]; omega
    · obtain rfl : k = 20 := by omega
      go_wp2
      go_ret
      exact ⟨rfl, rfl⟩
def bitsOf (x : Int) (u : Bool) : Int := if u = true then logU x - 1 else logL x
theorem bits_bd {x : Int} (h1 : 100000000 ≤ x) (h2 : x ≤ 999999999) (u : Bool) : 0 ≤ bitsOf x u ∧ bitsOf x u ≤ 1048576 := by
  have a := logL_bd h1 h2
  have b := logU_bd h1 h2
  unfold bitsOf
  split <;> omega
theorem l03Bits_any (x : Int) (u : Bool) (w : World) (h1 : 100000000 ≤ x) (h2 : x ≤ 999999999) :
    Calls Try.prog 141 #[.int .i64 x, .bool u] w fun e w' => e = .returned (.int .i64 (bitsOf x u)) ∧ w = w' := by
  cases u
  · exact (l03Bits_low x w h1 h2).mono fun e w' h => ⟨by rw [h.1]; rfl, h.2⟩
  · exact (l03Bits_up x w h1 h2).mono fun e w' h => ⟨by rw [h.1, show bitsOf x true = (runU 20 x).2 by rw [bitsOf, if_pos rfl, logU]; omega], h.2⟩
set_option maxHeartbeats 400000 in
theorem l03Log_any (x : Int) (w : World) (h1 : 100000000 ≤ x) (h2 : x ≤ 999999999) :
    Calls Try.prog 128 #[.int .i64 x] w (IvIs (logL x) (logU x) w) := by
  have B0 := bits_bd h1 h2 false
  have B1 := bits_bd h1 h2 true
  have e0 : bitsOf x false = logL x := rfl
  have e1 : bitsOf x true + 1 = logU x := by rw [bitsOf, if_pos rfl]; omega
  have E0 := Lib.hid e0
  have E1 := Lib.hid e1
  clear e0 e1
  have L := fun u W => l03Bits_any x u W h1 h2
  generalize bitsOf x = p at *
  go_enter Try.func128, Try.ntmps128
  go_wp2_with (first
    | (go_at_call 141; refine (L _ _).mono ?_; rintro e w' ⟨rfl, rfl⟩))
  exact bodyPost_ret (v := .agg #[.int .i64 (p false), .int .i64 (p true + 1)]) (by simp [results, Try.results128, go_sem]) rfl ⟨endIv rfl E0.out E1.out, by repeat' (first | exact Below.refl _ _ | assumption | refine Below.alloc ?_ (by first | omega | (simp; done) | (simp; omega)) _ | refine Below.drew ?_ | refine Below.setCell ?_ (by first | omega | (simp; done) | (simp; omega)) _)⟩
end Go.Proofs.Ytkblmcpklpmobaa
