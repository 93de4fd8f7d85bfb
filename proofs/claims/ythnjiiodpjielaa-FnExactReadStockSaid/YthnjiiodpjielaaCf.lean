/- The program's CompareFigures (layer 2) and the laws' between. No condition. -/
import Derived.Test.YthnjiiodpjielaaRb
namespace Go.Proofs.Ythnjiiodpjielaa
open Go.RowKit
set_option linter.unusedVariables false
set_option linter.unusedSimpArgs false

set_option maxHeartbeats 400000 in
theorem isNaNF_any (x : Int) (w : World) :
    Calls Try.prog 195 #[.int .i64 x] w fun e w' => e = .returned (.bool false) ∧ w = w' := by
  go_enter Try.func195, Try.ntmps195
  go_wp2
  go_ret
  exact ⟨endBool (by simp), rfl⟩
theorem cmpV_lt {x y : Int} (h : x < y) : cmpV x y = -1 := if_pos h
theorem cmpV_gt {x y : Int} (h : y < x) : cmpV x y = 1 := by rw [cmpV, if_neg (by omega), if_pos h]
theorem cmpV_eq {x y : Int} (h1 : ¬ x < y) (h2 : ¬ y < x) : cmpV x y = 0 := by rw [cmpV, if_neg h1, if_neg h2]
set_option maxHeartbeats 1000000 in
theorem compareF_any (x y : Int) (w : World) :
    Calls Try.prog 186 #[.int .i64 x, .int .i64 y] w fun e w' => e = .returned (.int .i64 (cmpV x y)) ∧ w = w' := by
  by_cases h1 : x < y
  · have h2 : ¬ y < x := by omega
    rw [cmpV_lt h1]
    go_enter Try.func186, Try.ntmps186
    go_wp2_with (go_at_call 195; refine (isNaNF_any _ _).mono ?_; rintro e w' ⟨rfl, rfl⟩)
    go_ret
    exact ⟨rfl, rfl⟩
  · by_cases h2 : y < x
    · rw [cmpV_gt h2]
      go_enter Try.func186, Try.ntmps186
      go_wp2_with (go_at_call 195; refine (isNaNF_any _ _).mono ?_; rintro e w' ⟨rfl, rfl⟩)
      go_ret
      exact ⟨rfl, rfl⟩
    · rw [cmpV_eq h1 h2]
      go_enter Try.func186, Try.ntmps186
      go_wp2_with (go_at_call 195; refine (isNaNF_any _ _).mono ?_; rintro e w' ⟨rfl, rfl⟩)
      go_ret
      exact ⟨rfl, rfl⟩
def orV (a b : Int) : Int := if a = 0 then b else a
theorem orV_zero (b : Int) : orV 0 b = b := if_pos rfl
theorem orV_not {a b : Int} (h : ¬ a = 0) : orV a b = a := if_neg h
set_option maxHeartbeats 1000000 in
theorem cmpOr_two (x y : Int) (b : Nat) (w : World) (c0 : w.cell? ⟨b, 0, none⟩ = some (.int .i64 x)) (c1 : w.cell? ⟨b, 1, none⟩ = some (.int .i64 y)) :
    Calls Try.prog 185 #[.slice (some ⟨b, 0, none⟩) 2 2] w fun e w' => e = .returned (.int .i64 (orV x y)) ∧ w = w' := by
  go_enter Try.func185, Try.ntmps185
  go_wp2
  go_loopw [8] (fun i wr => ∃ k : Nat, k ≤ 2 ∧ i = .int .i64 k ∧ wr = w ∧ (1 ≤ k → x = 0) ∧ (2 ≤ k → y = 0)) (fun i _ => 2 - (intOf i).toNat)
  case atStart => exact ⟨0, by omega, rfl, rfl, fun h => absurd h (by omega), fun h => absurd h (by omega)⟩
  case round =>
    obtain ⟨k, hk, rfl, rfl, hx, hy⟩ := hrel
    by_cases h0 : k = 0
    · subst h0
      clear hx hy
      by_cases hx : x = 0
      · subst hx
        go_wp2
        go_roundw
        case rel => exact ⟨1, by omega, by go_num, by simp⟩
        case measure => simp [intOf]
      · go_wp2
        go_ret
        exact ⟨by rw [orV_not hx]; rfl, rfl⟩
    · obtain rfl : x = 0 := hx (by omega)
      by_cases h1 : k = 1
      · subst h1
        clear hx hy h0
        by_cases hy : y = 0
        · subst hy
          go_wp2
          go_roundw
          case rel => exact ⟨2, by omega, by go_num, by simp⟩
          case measure => simp [intOf]
        · go_wp2
          go_ret
          exact ⟨by rw [orV_zero]; rfl, rfl⟩
      · obtain rfl : k = 2 := by omega
        obtain rfl : y = 0 := hy (by omega)
        clear hx hy h0 h1
        go_wp2
        go_ret
        exact ⟨by rw [orV_zero]; rfl, rfl⟩
set_option maxHeartbeats 2000000 in
theorem compareFigs_any (d t e z : Int) (w : World) :
    Calls Try.prog 143 #[.agg #[.int .i64 d, .int .i64 t], .agg #[.int .i64 e, .int .i64 z]] w fun e' w' => e' = .returned (.int .i64 (orV (cmpV t z) (cmpV d e))) ∧ Below w.heap.size w w' := by
  have C1 := fun W => compareF_any t z W
  have C2 := fun W => compareF_any d e W
  generalize cmpV t z = p at *
  generalize cmpV d e = q at *
  have O := fun B W c0 c1 => cmpOr_two p q B W c0 c1
  generalize orV p q = o at *
  go_enter Try.func143, Try.ntmps143
  go_wp2_with fail
  go_region_held3 (fun w' => w'.cell? ⟨w.heap.size, 0, none⟩ = some (.int .i64 d) ∧ w'.cell? ⟨w.heap.size, 1, none⟩ = some (.int .i64 t) ∧ w'.cell? ⟨w.heap.size + 1, 0, none⟩ = some (.int .i64 e) ∧ w'.cell? ⟨w.heap.size + 1, 1, none⟩ = some (.int .i64 z)) (go_keep) (first
    | (go_at_call 186; (with_reducible refine (C1 _).mono ?_); rintro e' w' ⟨rfl, rfl⟩)
    | (go_at_call 186; (with_reducible refine (C2 _).mono ?_); rintro e' w' ⟨rfl, rfl⟩)
    | (go_at_call 185; refine (O _ _ ?_ ?_).mono ?_; (focus (first | assumption | (simp [go_sem]; done) | (simp [go_sem, *]; done))); (focus (first | assumption | (simp [go_sem]; done) | (simp [go_sem, *]; done))); rintro e' w' ⟨rfl, rfl⟩))
  all_goals go_wp2_with fail
  all_goals go_ret
  all_goals exact ⟨rfl, by repeat' (first | exact Below.refl _ _ | assumption | refine Below.alloc ?_ (by first | omega | (simp; done) | (simp; omega)) _ | refine Below.drew ?_ | refine Below.setCell ?_ (by first | omega | (simp; done) | (simp; omega)) _)⟩
set_option maxHeartbeats 1000000 in
theorem areFigures_two (d t e z : Int) (b : Nat) (w : World) (c0 : w.cell? ⟨b, 0, none⟩ = some (.int .i64 d)) (c1 : w.cell? ⟨b, 1, none⟩ = some (.int .i64 t)) (c2 : w.cell? ⟨b, 2, none⟩ = some (.int .i64 e)) (c3 : w.cell? ⟨b, 3, none⟩ = some (.int .i64 z)) (hd : figB d t = true) (he : figB e z = true) :
    Calls Try.prog 142 #[.slice (some ⟨b, 0, none⟩) 2 2] w fun e w' => e = .returned (.bool true) ∧ Below w.heap.size w w' := by
  have hb0 : b < w.heap.size := by simpa using World.block_lt_of_cell? w _ c0
  have hb1 : b < w.heap.size + 1 := by omega
  have I1 := fun W => iIsFigure_any d t W
  have I2 := fun W => iIsFigure_any e z W
  rw [hd] at I1
  rw [he] at I2
  clear hd he
  go_enter Try.func142, Try.ntmps142
  go_wp2
  go_loopw [7] (fun i wr => ∃ k : Nat, k ≤ 2 ∧ i = .int .i64 k ∧ Below w.heap.size w wr) (fun i _ => 2 - (intOf i).toNat)
  case atStart => exact ⟨0, by omega, rfl, Below.refl _ _⟩
  case round =>
    obtain ⟨k, hk, rfl, hB⟩ := hrel
    have hz := hB.size
    have g0 : b < wr.heap.size := by omega
    have q0 := (hB.cell (p := ⟨b, 0, none⟩) hb0).trans c0
    have q1 := (hB.cell (p := ⟨b, 1, none⟩) hb0).trans c1
    have q2 := (hB.cell (p := ⟨b, 2, none⟩) hb0).trans c2
    have q3 := (hB.cell (p := ⟨b, 3, none⟩) hb0).trans c3
    clear c0 c1 c2 c3
    by_cases h0 : k = 0
    · subst h0
      go_wp2_with (first
        | (go_at_call 104; (with_reducible refine (I1 _).mono ?_); rintro e w' ⟨rfl, rfl⟩))
      go_roundw
      case rel => exact ⟨1, by omega, by go_num, by repeat' (first | exact Below.refl _ _ | assumption | refine Below.alloc ?_ (by first | omega | (simp; done) | (simp; omega)) _ | refine Below.drew ?_ | refine Below.setCell ?_ (by first | omega | (simp; done) | (simp; omega)) _)⟩
      case measure => simp [intOf]
    · by_cases h1 : k = 1
      · subst h1
        go_wp2_with (first
          | (go_at_call 104; (with_reducible refine (I2 _).mono ?_); rintro e w' ⟨rfl, rfl⟩))
        go_roundw
        case rel => exact ⟨2, by omega, by go_num, by repeat' (first | exact Below.refl _ _ | assumption | refine Below.alloc ?_ (by first | omega | (simp; done) | (simp; omega)) _ | refine Below.drew ?_ | refine Below.setCell ?_ (by first | omega | (simp; done) | (simp; omega)) _)⟩
        case measure => simp [intOf]
      · obtain rfl : k = 2 := by omega
        go_wp2
        go_ret
        exact ⟨rfl, hB⟩
set_option maxHeartbeats 2000000 in
theorem iCompareFigures_ok (d t e z : Int) (w : World) (hd : figB d t = true) (he : figB e z = true) :
    Calls Try.prog 92 #[.agg #[.int .i64 d, .int .i64 t], .agg #[.int .i64 e, .int .i64 z]] w fun e' w' => e' = .returned (.tuple #[.int .i64 (orV (cmpV t z) (cmpV d e)), .int .i64 0]) ∧ Below w.heap.size w w' := by
  have C := fun W => compareFigs_any d t e z W
  generalize orV (cmpV t z) (cmpV d e) = o at *
  have T := fun B W c0 c1 c2 c3 => areFigures_two d t e z B W c0 c1 c2 c3 hd he
  clear hd he
  go_enter Try.func92, Try.ntmps92
  go_wp2_with (first
    | (go_at_call 142; refine (T _ _ ?_ ?_ ?_ ?_).mono ?_; (focus (first | assumption | (simp [go_sem]; done) | (simp [go_sem, *]; done))); (focus (first | assumption | (simp [go_sem]; done) | (simp [go_sem, *]; done))); (focus (first | assumption | (simp [go_sem]; done) | (simp [go_sem, *]; done))); (focus (first | assumption | (simp [go_sem]; done) | (simp [go_sem, *]; done))); rintro e' w1 ⟨rfl, hb1⟩; have hB1 : Below w.heap.size w w1 := Below.trans (by repeat' (first | exact Below.refl _ _ | assumption | refine Below.alloc ?_ (by first | omega | (simp; done) | (simp; omega)) _ | refine Below.drew ?_ | refine Below.setCell ?_ (by first | omega | (simp; done) | (simp; omega)) _)) (hb1.mono (by first | omega | (simp; done) | (simp; omega))); have z1 := hB1.size; have zz1 := hb1.size; have ca0 : w1.cell? ⟨w.heap.size, 0, none⟩ = some (.int .i64 d) := (by rw [hb1.cell (by first | omega | (simp; done) | (simp; omega))]; simp [go_sem]); have ca1 : w1.cell? ⟨w.heap.size, 1, none⟩ = some (.int .i64 t) := (by rw [hb1.cell (by first | omega | (simp; done) | (simp; omega))]; simp [go_sem]); have ca2 : w1.cell? ⟨w.heap.size + 1, 0, none⟩ = some (.int .i64 e) := (by rw [hb1.cell (by first | omega | (simp; done) | (simp; omega))]; simp [go_sem]); have ca3 : w1.cell? ⟨w.heap.size + 1, 1, none⟩ = some (.int .i64 z) := (by rw [hb1.cell (by first | omega | (simp; done) | (simp; omega))]; simp [go_sem]))
    | (go_at_call 143; (with_reducible refine (C _).mono ?_); rintro e' w2 ⟨rfl, hb2⟩; have hB2 : Below w.heap.size w w2 := Below.trans (by repeat' (first | exact Below.refl _ _ | assumption | refine Below.alloc ?_ (by first | omega | (simp; done) | (simp; omega)) _ | refine Below.drew ?_ | refine Below.setCell ?_ (by first | omega | (simp; done) | (simp; omega)) _)) (hb2.mono (by first | omega | (simp; done) | (simp; omega)))))
  go_ret2
  exact ⟨rfl, by repeat' (first | exact Below.refl _ _ | assumption | refine Below.alloc ?_ (by first | omega | (simp; done) | (simp; omega)) _ | refine Below.drew ?_ | refine Below.setCell ?_ (by first | omega | (simp; done) | (simp; omega)) _)⟩
theorem ord_cmp {d t e z : Int} (hd : Dig d) (he : Dig e) (h : 10000 * t + d ≤ 10000 * z + e) : orV (cmpV t z) (cmpV d e) ≤ 0 := by
  obtain ⟨d1, d2⟩ := hd
  obtain ⟨e1, e2⟩ := he
  unfold orV cmpV
  split <;> split <;> (try split) <;> (try split) <;> omega
set_option maxHeartbeats 2000000 in
theorem between_ok (a b d t e z : Int) (w : World) (ha : figB a b = true) (hd : figB d t = true) (he : figB e z = true) (h1 : 10000 * b + a ≤ 10000 * t + d) (h2 : 10000 * t + d ≤ 10000 * z + e) :
    Calls Try.prog 32 #[.agg #[.int .i64 a, .int .i64 b], .agg #[.int .i64 d, .int .i64 t], .agg #[.int .i64 e, .int .i64 z]] w fun e' w' => e' = .returned (.bool true) ∧ Below w.heap.size w w' := by
  have C1 := fun W => iCompareFigures_ok a b d t W ha hd
  have C2 := fun W => iCompareFigures_ok d t e z W hd he
  have o1 := ord_cmp (figB_iff.1 ha).1 (figB_iff.1 hd).1 h1
  have o2 := ord_cmp (figB_iff.1 hd).1 (figB_iff.1 he).1 h2
  clear ha hd he h1 h2
  generalize orV (cmpV b t) (cmpV a d) = p at *
  generalize orV (cmpV t z) (cmpV d e) = q at *
  go_enter Try.func32, Try.ntmps32
  go_wp2_with (first
    | (go_at_call 92; (with_reducible refine (C1 _).mono ?_); rintro e' w1 ⟨rfl, hb1⟩; have hB1 : Below w.heap.size w w1 := Below.trans (by repeat' (first | exact Below.refl _ _ | assumption | refine Below.alloc ?_ (by first | omega | (simp; done) | (simp; omega)) _ | refine Below.drew ?_ | refine Below.setCell ?_ (by first | omega | (simp; done) | (simp; omega)) _)) (hb1.mono (by first | omega | (simp; done) | (simp; omega))); have z1 := hB1.size; have zz1 := hb1.size; have cb00 : w1.cell? ⟨w.heap.size, 0, none⟩ = some (.int .i64 a) := (by rw [hb1.cell (by first | omega | (simp; done) | (simp; omega))]; simp [go_sem]); have cb01 : w1.cell? ⟨w.heap.size, 1, none⟩ = some (.int .i64 b) := (by rw [hb1.cell (by first | omega | (simp; done) | (simp; omega))]; simp [go_sem]); have cb10 : w1.cell? ⟨w.heap.size + 1, 0, none⟩ = some (.int .i64 d) := (by rw [hb1.cell (by first | omega | (simp; done) | (simp; omega))]; simp [go_sem]); have cb11 : w1.cell? ⟨w.heap.size + 1, 1, none⟩ = some (.int .i64 t) := (by rw [hb1.cell (by first | omega | (simp; done) | (simp; omega))]; simp [go_sem]); have cb20 : w1.cell? ⟨w.heap.size + 2, 0, none⟩ = some (.int .i64 e) := (by rw [hb1.cell (by first | omega | (simp; done) | (simp; omega))]; simp [go_sem]); have cb21 : w1.cell? ⟨w.heap.size + 2, 1, none⟩ = some (.int .i64 z) := (by rw [hb1.cell (by first | omega | (simp; done) | (simp; omega))]; simp [go_sem]))
    | (go_at_call 92; (with_reducible refine (C2 _).mono ?_); rintro e' w2 ⟨rfl, hb2⟩; have hB2 : Below w.heap.size w w2 := Below.trans (by repeat' (first | exact Below.refl _ _ | assumption | refine Below.alloc ?_ (by first | omega | (simp; done) | (simp; omega)) _ | refine Below.drew ?_ | refine Below.setCell ?_ (by first | omega | (simp; done) | (simp; omega)) _)) (hb2.mono (by first | omega | (simp; done) | (simp; omega)))))
  all_goals go_ret
  all_goals exact ⟨endBool (by simp_all), by repeat' (first | exact Below.refl _ _ | assumption | refine Below.alloc ?_ (by first | omega | (simp; done) | (simp; omega)) _ | refine Below.drew ?_ | refine Below.setCell ?_ (by first | omega | (simp; done) | (simp; omega)) _)⟩
end Go.Proofs.Ythnjiiodpjielaa
