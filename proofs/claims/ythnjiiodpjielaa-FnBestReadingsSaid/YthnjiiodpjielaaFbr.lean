/- The law FnBestReadings (layer 6). No condition. -/

import Derived.Test.YthnjiiodpjielaaCr
import Derived.Test.YthnjiiodpjielaaBr
import Derived.Test.YthnjiiodpjielaaRe
import Derived.Test.YthnjiiodpjielaaDrA
import Derived.Test.YthnjiiodpjielaaDice
import Derived.Test.YthnjiiodpjielaaLike
namespace Go.Proofs.Ythnjiiodpjielaa
open Go.RowKit
set_option linter.unusedVariables false
set_option linter.unusedSimpArgs false

theorem rBest_in {s len pt : Int} (h : ptB s len pt 0 = true) : ∃ m, rBest s len pt = (figAt m, 0) ∧ m < nFigs s ∧ ∀ n, n < nFigs s → away s len pt m ≤ away s len pt n := by
  obtain ⟨⟨s1, s2⟩, ⟨h1, h2⟩, ⟨h3, h4⟩, _, _⟩ := ptB_iff.1 h
  have b := nFigs_bd s
  obtain ⟨i1, _, i3⟩ := bst_says (g := away s len pt) (fun n => (away_bd h1 h2 h3 h4 n).1) (nFigs s) (by omega)
  exact ⟨_, by rw [rBest, if_pos h], i1, i3⟩
theorem fig_dec {s : Int} {n : Nat} (h : n < nFigs s) : (figAt n).2 < decades s := by
  have := decades_bd s
  unfold nFigs at h
  simp only [figAt]
  omega
set_option maxRecDepth 100000 in
set_option maxHeartbeats 16000000 in
theorem fnBestReadings_walk (A : Option Addr) (n c : Nat) (l : List Int) (w : World) (hl : l.length = n) (_hc : n ≤ c) (hm : c ≤ maxLen) (hs : Sees w w.heap.size A (l.map (Value.int .u8))) (h8 : U8s l) :
    Calls Try.prog 5 #[.slice A n c] w fun e w' => e = .returned (.bool true) ∧ Below w.heap.size w w' := by
  unfold maxLen at hm
  have BG := fun W => big_small A n c W (by omega)
  by_cases hbig : 4096 < n
  · rw [show decide (4096 < n) = true from decide_eq_true hbig] at BG
    go_enter Try.func5, Try.ntmps5
    go_wp2_with (go_at_call 8; refine (BG _).mono ?_; rintro e w' ⟨rfl, rfl⟩)
    go_ret
    exact ⟨rfl, Below.refl _ _⟩
  · rw [show decide (4096 < n) = false from decide_eq_false hbig] at BG
    have hn : n ≤ 1048576 := by omega
    go_enter Try.func5, Try.ntmps5
    go_wp2_with (go_at_call 8; refine (BG _).mono ?_; rintro e w' ⟨rfl, rfl⟩)
    clear BG
    go_wp2_with fail
    refine (DrawBestReading_any A n c l _ hl hn h8 ?_).mono ?_
    · first | exact hs | exact (hs.over (by repeat' (first | (with_reducible exact Below.refl _ _) | (with_reducible assumption) | (with_reducible refine Below.alloc ?_ ?_ _) | (with_reducible refine Below.drew ?_) | (with_reducible refine belowDraws ?_ _) | (with_reducible refine Below.setCell ?_ ?_ _) | omega | (simp; done) | (simp; omega)))).wider (by first | omega | (simp; done) | (simp; omega))
    rintro e w1 ⟨s, len, pt, rfl, hb1⟩
    have B1 : Below w.heap.size w w1 := Below.trans (by repeat' (first | (with_reducible exact Below.refl _ _) | (with_reducible assumption) | (with_reducible refine Below.alloc ?_ ?_ _) | (with_reducible refine Below.drew ?_) | (with_reducible refine belowDraws ?_ _) | (with_reducible refine Below.setCell ?_ ?_ _) | omega | (simp; done) | (simp; omega))) (hb1.mono (by first | omega | (simp; done) | (simp; omega)))
    have hz1 := B1.size
    clear hb1
    have I1 := fun W => iBestReading_any s len pt W
    have S1 := fun W => sBestReading_any s len pt W
    by_cases hp : ptB s len pt 0 = true
    · obtain ⟨m, em, hm1, HA⟩ := rBest_in hp
      obtain ⟨⟨s1, s2⟩, ⟨l1, l2⟩, ⟨h3, h4⟩, _, _⟩ := ptB_iff.1 hp
      have hfig := figAt_bd m
      have hdec := fig_dec hm1
      unfold away at HA
      rw [em] at I1 S1
      simp only [endFC] at I1 S1
      clear em hm1 hp
      generalize (figAt m).1 = fa at *
      generalize (figAt m).2 = ft at *
      go_wp2_with fail
      refine (I1 _).mono ?_
      rintro e w2 ⟨rfl, hb2⟩
      have B2 : Below w.heap.size w w2 := Below.trans (by repeat' (first | (with_reducible exact Below.refl _ _) | (with_reducible assumption) | (with_reducible refine Below.alloc ?_ ?_ _) | (with_reducible refine Below.drew ?_) | (with_reducible refine belowDraws ?_ _) | (with_reducible refine Below.setCell ?_ ?_ _) | omega | (simp; done) | (simp; omega))) (hb2.mono (by first | omega | (simp; done) | (simp; omega)))
      have hz2 := B2.size
      clear hb2
      go_wp2_with fail
      refine (S1 _).mono ?_
      rintro e w3 ⟨rfl, hb3⟩
      have hl3_0 : w2.heap.size < w3.heap.size := Nat.lt_of_lt_of_le (by first | omega | (simp; done) | (simp; omega)) hb3.size
      have q3_00 : w3.cell? ⟨w2.heap.size, 0, none⟩ = some (.int .i64 fa) := (by rw [hb3.cell (by first | omega | (simp; done) | (simp; omega))]; simp [go_sem, *])
      have q3_01 : w3.cell? ⟨w2.heap.size, 1, none⟩ = some (.int .i64 ft) := (by rw [hb3.cell (by first | omega | (simp; done) | (simp; omega))]; simp [go_sem, *])
      have B3 : Below w.heap.size w w3 := Below.trans (by repeat' (first | (with_reducible exact Below.refl _ _) | (with_reducible assumption) | (with_reducible refine Below.alloc ?_ ?_ _) | (with_reducible refine Below.drew ?_) | (with_reducible refine belowDraws ?_ _) | (with_reducible refine Below.setCell ?_ ?_ _) | omega | (simp; done) | (simp; omega))) (hb3.mono (by first | omega | (simp; done) | (simp; omega)))
      have hz3 := B3.size
      clear hb3
      clear I1 S1
      go_wp2_with fail
      refine (DrawMayBeAt_any A n c l _ hl hn h8 ?_).mono ?_
      · first | exact hs | exact (hs.over (by repeat' (first | (with_reducible exact Below.refl _ _) | (with_reducible assumption) | (with_reducible refine Below.alloc ?_ ?_ _) | (with_reducible refine Below.drew ?_) | (with_reducible refine belowDraws ?_ _) | (with_reducible refine Below.setCell ?_ ?_ _) | omega | (simp; done) | (simp; omega)))).wider (by first | omega | (simp; done) | (simp; omega))
      rintro e w4 ⟨sx, gd, gt, lx, ax, ex, rfl, hb4⟩
      have hl4_0 : w2.heap.size < w4.heap.size := Nat.lt_of_lt_of_le (by first | omega | (simp; done) | (simp; omega)) hb4.size
      have q4_00 : w4.cell? ⟨w2.heap.size, 0, none⟩ = some (.int .i64 fa) := (by rw [hb4.cell (by first | omega | (simp; done) | (simp; omega))]; simp [go_sem, *])
      have q4_01 : w4.cell? ⟨w2.heap.size, 1, none⟩ = some (.int .i64 ft) := (by rw [hb4.cell (by first | omega | (simp; done) | (simp; omega))]; simp [go_sem, *])
      have hl4_1 : w3.heap.size < w4.heap.size := Nat.lt_of_lt_of_le (by first | omega | (simp; done) | (simp; omega)) hb4.size
      have q4_10 : w4.cell? ⟨w3.heap.size, 0, none⟩ = some (.int .i64 fa) := (by rw [hb4.cell (by first | omega | (simp; done) | (simp; omega))]; simp [go_sem, *])
      have q4_11 : w4.cell? ⟨w3.heap.size, 1, none⟩ = some (.int .i64 ft) := (by rw [hb4.cell (by first | omega | (simp; done) | (simp; omega))]; simp [go_sem, *])
      have B4 : Below w.heap.size w w4 := Below.trans (by repeat' (first | (with_reducible exact Below.refl _ _) | (with_reducible assumption) | (with_reducible refine Below.alloc ?_ ?_ _) | (with_reducible refine Below.drew ?_) | (with_reducible refine belowDraws ?_ _) | (with_reducible refine Below.setCell ?_ ?_ _) | omega | (simp; done) | (simp; omega))) (hb4.mono (by first | omega | (simp; done) | (simp; omega)))
      have hz4 := B4.size
      clear q3_00 q3_01 hl3_0
      clear hb4
      have I2 := fun W => iMayBeAt_any sx gd gt lx ax ex W
      have S2 := fun W => sMayBeAt_any sx gd gt lx ax ex W
      obtain ⟨⟨ok, one⟩, H2⟩ : ∃ p, Hid (rMay sx gd gt lx ax ex = p) := ⟨_, Lib.hid rfl⟩
      rw [H2.out] at I2 S2
      simp only at I2 S2
      clear H2
      go_wp2_with fail
      refine (I2 _).mono ?_
      rintro e w5 ⟨rfl, hb5⟩
      have hl5_0 : w2.heap.size < w5.heap.size := Nat.lt_of_lt_of_le (by first | omega | (simp; done) | (simp; omega)) hb5.size
      have q5_00 : w5.cell? ⟨w2.heap.size, 0, none⟩ = some (.int .i64 fa) := (by rw [hb5.cell (by first | omega | (simp; done) | (simp; omega))]; simp [go_sem, *])
      have q5_01 : w5.cell? ⟨w2.heap.size, 1, none⟩ = some (.int .i64 ft) := (by rw [hb5.cell (by first | omega | (simp; done) | (simp; omega))]; simp [go_sem, *])
      have hl5_1 : w3.heap.size < w5.heap.size := Nat.lt_of_lt_of_le (by first | omega | (simp; done) | (simp; omega)) hb5.size
      have q5_10 : w5.cell? ⟨w3.heap.size, 0, none⟩ = some (.int .i64 fa) := (by rw [hb5.cell (by first | omega | (simp; done) | (simp; omega))]; simp [go_sem, *])
      have q5_11 : w5.cell? ⟨w3.heap.size, 1, none⟩ = some (.int .i64 ft) := (by rw [hb5.cell (by first | omega | (simp; done) | (simp; omega))]; simp [go_sem, *])
      have hl5_2 : w4.heap.size < w5.heap.size := Nat.lt_of_lt_of_le (by first | omega | (simp; done) | (simp; omega)) hb5.size
      have q5_20 : w5.cell? ⟨w4.heap.size, 0, none⟩ = some (.int .i64 gd) := (by rw [hb5.cell (by first | omega | (simp; done) | (simp; omega))]; simp [go_sem, *])
      have q5_21 : w5.cell? ⟨w4.heap.size, 1, none⟩ = some (.int .i64 gt) := (by rw [hb5.cell (by first | omega | (simp; done) | (simp; omega))]; simp [go_sem, *])
      have B5 : Below w.heap.size w w5 := Below.trans (by repeat' (first | (with_reducible exact Below.refl _ _) | (with_reducible assumption) | (with_reducible refine Below.alloc ?_ ?_ _) | (with_reducible refine Below.drew ?_) | (with_reducible refine belowDraws ?_ _) | (with_reducible refine Below.setCell ?_ ?_ _) | omega | (simp; done) | (simp; omega))) (hb5.mono (by first | omega | (simp; done) | (simp; omega)))
      have hz5 := B5.size
      clear q4_00 q4_01 q4_10 q4_11 hl4_0 hl4_1
      clear hb5
      go_wp2_with fail
      refine (S2 _).mono ?_
      rintro e w6 ⟨rfl, hb6⟩
      have hl6_0 : w2.heap.size < w6.heap.size := Nat.lt_of_lt_of_le (by first | omega | (simp; done) | (simp; omega)) hb6.size
      have q6_00 : w6.cell? ⟨w2.heap.size, 0, none⟩ = some (.int .i64 fa) := (by rw [hb6.cell (by first | omega | (simp; done) | (simp; omega))]; simp [go_sem, *])
      have q6_01 : w6.cell? ⟨w2.heap.size, 1, none⟩ = some (.int .i64 ft) := (by rw [hb6.cell (by first | omega | (simp; done) | (simp; omega))]; simp [go_sem, *])
      have hl6_1 : w3.heap.size < w6.heap.size := Nat.lt_of_lt_of_le (by first | omega | (simp; done) | (simp; omega)) hb6.size
      have q6_10 : w6.cell? ⟨w3.heap.size, 0, none⟩ = some (.int .i64 fa) := (by rw [hb6.cell (by first | omega | (simp; done) | (simp; omega))]; simp [go_sem, *])
      have q6_11 : w6.cell? ⟨w3.heap.size, 1, none⟩ = some (.int .i64 ft) := (by rw [hb6.cell (by first | omega | (simp; done) | (simp; omega))]; simp [go_sem, *])
      have hl6_2 : w4.heap.size < w6.heap.size := Nat.lt_of_lt_of_le (by first | omega | (simp; done) | (simp; omega)) hb6.size
      have q6_20 : w6.cell? ⟨w4.heap.size, 0, none⟩ = some (.int .i64 gd) := (by rw [hb6.cell (by first | omega | (simp; done) | (simp; omega))]; simp [go_sem, *])
      have q6_21 : w6.cell? ⟨w4.heap.size, 1, none⟩ = some (.int .i64 gt) := (by rw [hb6.cell (by first | omega | (simp; done) | (simp; omega))]; simp [go_sem, *])
      have B6 : Below w.heap.size w w6 := Below.trans (by repeat' (first | (with_reducible exact Below.refl _ _) | (with_reducible assumption) | (with_reducible refine Below.alloc ?_ ?_ _) | (with_reducible refine Below.drew ?_) | (with_reducible refine belowDraws ?_ _) | (with_reducible refine Below.setCell ?_ ?_ _) | omega | (simp; done) | (simp; omega))) (hb6.mono (by first | omega | (simp; done) | (simp; omega)))
      have hz6 := B6.size
      clear q5_00 q5_01 q5_10 q5_11 q5_20 q5_21 hl5_0 hl5_1 hl5_2
      clear hb6
      clear I2 S2
      go_wp2_with fail
      refine (DrawReadError_any A n c l _ hl hn h8 ?_).mono ?_
      · first | exact hs | exact (hs.over (by repeat' (first | (with_reducible exact Below.refl _ _) | (with_reducible assumption) | (with_reducible refine Below.alloc ?_ ?_ _) | (with_reducible refine Below.drew ?_) | (with_reducible refine belowDraws ?_ _) | (with_reducible refine Below.setCell ?_ ?_ _) | omega | (simp; done) | (simp; omega)))).wider (by first | omega | (simp; done) | (simp; omega))
      rintro e w7 ⟨ea, eb, ec, ed, rfl, hb7⟩
      have hl7_0 : w2.heap.size < w7.heap.size := Nat.lt_of_lt_of_le (by first | omega | (simp; done) | (simp; omega)) hb7.size
      have q7_00 : w7.cell? ⟨w2.heap.size, 0, none⟩ = some (.int .i64 fa) := (by rw [hb7.cell (by first | omega | (simp; done) | (simp; omega))]; simp [go_sem, *])
      have q7_01 : w7.cell? ⟨w2.heap.size, 1, none⟩ = some (.int .i64 ft) := (by rw [hb7.cell (by first | omega | (simp; done) | (simp; omega))]; simp [go_sem, *])
      have hl7_1 : w3.heap.size < w7.heap.size := Nat.lt_of_lt_of_le (by first | omega | (simp; done) | (simp; omega)) hb7.size
      have q7_10 : w7.cell? ⟨w3.heap.size, 0, none⟩ = some (.int .i64 fa) := (by rw [hb7.cell (by first | omega | (simp; done) | (simp; omega))]; simp [go_sem, *])
      have q7_11 : w7.cell? ⟨w3.heap.size, 1, none⟩ = some (.int .i64 ft) := (by rw [hb7.cell (by first | omega | (simp; done) | (simp; omega))]; simp [go_sem, *])
      have hl7_2 : w4.heap.size < w7.heap.size := Nat.lt_of_lt_of_le (by first | omega | (simp; done) | (simp; omega)) hb7.size
      have q7_20 : w7.cell? ⟨w4.heap.size, 0, none⟩ = some (.int .i64 gd) := (by rw [hb7.cell (by first | omega | (simp; done) | (simp; omega))]; simp [go_sem, *])
      have q7_21 : w7.cell? ⟨w4.heap.size, 1, none⟩ = some (.int .i64 gt) := (by rw [hb7.cell (by first | omega | (simp; done) | (simp; omega))]; simp [go_sem, *])
      have B7 : Below w.heap.size w w7 := Below.trans (by repeat' (first | (with_reducible exact Below.refl _ _) | (with_reducible assumption) | (with_reducible refine Below.alloc ?_ ?_ _) | (with_reducible refine Below.drew ?_) | (with_reducible refine belowDraws ?_ _) | (with_reducible refine Below.setCell ?_ ?_ _) | omega | (simp; done) | (simp; omega))) (hb7.mono (by first | omega | (simp; done) | (simp; omega)))
      have hz7 := B7.size
      clear q6_00 q6_01 q6_10 q6_11 q6_20 q6_21 hl6_0 hl6_1 hl6_2
      clear hb7
      have I3 := fun W => iReadError_any ea eb ec ed W
      have S3 := fun W => sReadError_any ea eb ec ed W
      obtain ⟨⟨en, three⟩, H3⟩ : ∃ p, Hid (rReadE ea eb ec ed = p) := ⟨_, Lib.hid rfl⟩
      rw [H3.out] at I3 S3
      simp only at I3 S3
      clear H3
      go_wp2_with fail
      refine (I3 _).mono ?_
      rintro e w8 ⟨rfl, hb8⟩
      have hl8_0 : w2.heap.size < w8.heap.size := Nat.lt_of_lt_of_le (by first | omega | (simp; done) | (simp; omega)) hb8.size
      have q8_00 : w8.cell? ⟨w2.heap.size, 0, none⟩ = some (.int .i64 fa) := (by rw [hb8.cell (by first | omega | (simp; done) | (simp; omega))]; simp [go_sem, *])
      have q8_01 : w8.cell? ⟨w2.heap.size, 1, none⟩ = some (.int .i64 ft) := (by rw [hb8.cell (by first | omega | (simp; done) | (simp; omega))]; simp [go_sem, *])
      have hl8_1 : w3.heap.size < w8.heap.size := Nat.lt_of_lt_of_le (by first | omega | (simp; done) | (simp; omega)) hb8.size
      have q8_10 : w8.cell? ⟨w3.heap.size, 0, none⟩ = some (.int .i64 fa) := (by rw [hb8.cell (by first | omega | (simp; done) | (simp; omega))]; simp [go_sem, *])
      have q8_11 : w8.cell? ⟨w3.heap.size, 1, none⟩ = some (.int .i64 ft) := (by rw [hb8.cell (by first | omega | (simp; done) | (simp; omega))]; simp [go_sem, *])
      have hl8_2 : w4.heap.size < w8.heap.size := Nat.lt_of_lt_of_le (by first | omega | (simp; done) | (simp; omega)) hb8.size
      have q8_20 : w8.cell? ⟨w4.heap.size, 0, none⟩ = some (.int .i64 gd) := (by rw [hb8.cell (by first | omega | (simp; done) | (simp; omega))]; simp [go_sem, *])
      have q8_21 : w8.cell? ⟨w4.heap.size, 1, none⟩ = some (.int .i64 gt) := (by rw [hb8.cell (by first | omega | (simp; done) | (simp; omega))]; simp [go_sem, *])
      have B8 : Below w.heap.size w w8 := Below.trans (by repeat' (first | (with_reducible exact Below.refl _ _) | (with_reducible assumption) | (with_reducible refine Below.alloc ?_ ?_ _) | (with_reducible refine Below.drew ?_) | (with_reducible refine belowDraws ?_ _) | (with_reducible refine Below.setCell ?_ ?_ _) | omega | (simp; done) | (simp; omega))) (hb8.mono (by first | omega | (simp; done) | (simp; omega)))
      have hz8 := B8.size
      clear q7_00 q7_01 q7_10 q7_11 q7_20 q7_21 hl7_0 hl7_1 hl7_2
      clear hb8
      go_wp2_with fail
      refine (S3 _).mono ?_
      rintro e w9 ⟨rfl, hb9⟩
      have hl9_0 : w2.heap.size < w9.heap.size := Nat.lt_of_lt_of_le (by first | omega | (simp; done) | (simp; omega)) hb9.size
      have q9_00 : w9.cell? ⟨w2.heap.size, 0, none⟩ = some (.int .i64 fa) := (by rw [hb9.cell (by first | omega | (simp; done) | (simp; omega))]; simp [go_sem, *])
      have q9_01 : w9.cell? ⟨w2.heap.size, 1, none⟩ = some (.int .i64 ft) := (by rw [hb9.cell (by first | omega | (simp; done) | (simp; omega))]; simp [go_sem, *])
      have hl9_1 : w3.heap.size < w9.heap.size := Nat.lt_of_lt_of_le (by first | omega | (simp; done) | (simp; omega)) hb9.size
      have q9_10 : w9.cell? ⟨w3.heap.size, 0, none⟩ = some (.int .i64 fa) := (by rw [hb9.cell (by first | omega | (simp; done) | (simp; omega))]; simp [go_sem, *])
      have q9_11 : w9.cell? ⟨w3.heap.size, 1, none⟩ = some (.int .i64 ft) := (by rw [hb9.cell (by first | omega | (simp; done) | (simp; omega))]; simp [go_sem, *])
      have hl9_2 : w4.heap.size < w9.heap.size := Nat.lt_of_lt_of_le (by first | omega | (simp; done) | (simp; omega)) hb9.size
      have q9_20 : w9.cell? ⟨w4.heap.size, 0, none⟩ = some (.int .i64 gd) := (by rw [hb9.cell (by first | omega | (simp; done) | (simp; omega))]; simp [go_sem, *])
      have q9_21 : w9.cell? ⟨w4.heap.size, 1, none⟩ = some (.int .i64 gt) := (by rw [hb9.cell (by first | omega | (simp; done) | (simp; omega))]; simp [go_sem, *])
      have B9 : Below w.heap.size w w9 := Below.trans (by repeat' (first | (with_reducible exact Below.refl _ _) | (with_reducible assumption) | (with_reducible refine Below.alloc ?_ ?_ _) | (with_reducible refine Below.drew ?_) | (with_reducible refine belowDraws ?_ _) | (with_reducible refine Below.setCell ?_ ?_ _) | omega | (simp; done) | (simp; omega))) (hb9.mono (by first | omega | (simp; done) | (simp; omega)))
      have hz9 := B9.size
      clear q8_00 q8_01 q8_10 q8_11 q8_20 q8_21 hl8_0 hl8_1 hl8_2
      clear hb9
      clear I3 S3
      have hD1 : Dig fa := hfig.1
      have PL := fun W => iPlaceOf_fit s fa ft len W hfig.1 ⟨by have := hfig.2; omega, by have := hdec; have := decades_bd s; omega⟩ l1 l2 (ckPlace_fits (s := s) (len := len) hfig.1 ⟨s1, s2⟩ hfig.2 hdec ⟨l1, l2⟩).2
      have bp := pl_bd (s := s) (t := ft) hD1 l1 l2
      obtain ⟨p1, hp1⟩ : ∃ x, plL s fa ft len = x := ⟨_, rfl⟩
      obtain ⟨q1, hq1⟩ : ∃ x, plU s fa ft len = x := ⟨_, rfl⟩
      rw [hp1, hq1] at PL bp HA
      clear hp1 hq1 hD1 hfig hdec
      go_wp2_with fail
      refine (PL _).mono ?_
      rintro e w10 ⟨rfl, hb10⟩
      have hl10_0 : w2.heap.size < w10.heap.size := Nat.lt_of_lt_of_le (by first | omega | (simp; done) | (simp; omega)) hb10.size
      have q10_00 : w10.cell? ⟨w2.heap.size, 0, none⟩ = some (.int .i64 fa) := (by rw [hb10.cell (by first | omega | (simp; done) | (simp; omega))]; simp [go_sem, *])
      have q10_01 : w10.cell? ⟨w2.heap.size, 1, none⟩ = some (.int .i64 ft) := (by rw [hb10.cell (by first | omega | (simp; done) | (simp; omega))]; simp [go_sem, *])
      have hl10_1 : w3.heap.size < w10.heap.size := Nat.lt_of_lt_of_le (by first | omega | (simp; done) | (simp; omega)) hb10.size
      have q10_10 : w10.cell? ⟨w3.heap.size, 0, none⟩ = some (.int .i64 fa) := (by rw [hb10.cell (by first | omega | (simp; done) | (simp; omega))]; simp [go_sem, *])
      have q10_11 : w10.cell? ⟨w3.heap.size, 1, none⟩ = some (.int .i64 ft) := (by rw [hb10.cell (by first | omega | (simp; done) | (simp; omega))]; simp [go_sem, *])
      have hl10_2 : w4.heap.size < w10.heap.size := Nat.lt_of_lt_of_le (by first | omega | (simp; done) | (simp; omega)) hb10.size
      have q10_20 : w10.cell? ⟨w4.heap.size, 0, none⟩ = some (.int .i64 gd) := (by rw [hb10.cell (by first | omega | (simp; done) | (simp; omega))]; simp [go_sem, *])
      have q10_21 : w10.cell? ⟨w4.heap.size, 1, none⟩ = some (.int .i64 gt) := (by rw [hb10.cell (by first | omega | (simp; done) | (simp; omega))]; simp [go_sem, *])
      have B10 : Below w.heap.size w w10 := Below.trans (by repeat' (first | (with_reducible exact Below.refl _ _) | (with_reducible assumption) | (with_reducible refine Below.alloc ?_ ?_ _) | (with_reducible refine Below.drew ?_) | (with_reducible refine belowDraws ?_ _) | (with_reducible refine Below.setCell ?_ ?_ _) | omega | (simp; done) | (simp; omega))) (hb10.mono (by first | omega | (simp; done) | (simp; omega)))
      have hz10 := B10.size
      clear q9_00 q9_01 q9_10 q9_11 q9_20 q9_21 hl9_0 hl9_1 hl9_2
      clear hb10
      clear PL
      go_wp2_with fail
      refine (iDecadesOf_ok s _ s1 s2).mono ?_
      rintro e w11 ⟨rfl, hb11⟩
      have hl11_0 : w2.heap.size < w11.heap.size := Nat.lt_of_lt_of_le (by first | omega | (simp; done) | (simp; omega)) hb11.size
      have q11_00 : w11.cell? ⟨w2.heap.size, 0, none⟩ = some (.int .i64 fa) := (by rw [hb11.cell (by first | omega | (simp; done) | (simp; omega))]; simp [go_sem, *])
      have q11_01 : w11.cell? ⟨w2.heap.size, 1, none⟩ = some (.int .i64 ft) := (by rw [hb11.cell (by first | omega | (simp; done) | (simp; omega))]; simp [go_sem, *])
      have hl11_1 : w3.heap.size < w11.heap.size := Nat.lt_of_lt_of_le (by first | omega | (simp; done) | (simp; omega)) hb11.size
      have q11_10 : w11.cell? ⟨w3.heap.size, 0, none⟩ = some (.int .i64 fa) := (by rw [hb11.cell (by first | omega | (simp; done) | (simp; omega))]; simp [go_sem, *])
      have q11_11 : w11.cell? ⟨w3.heap.size, 1, none⟩ = some (.int .i64 ft) := (by rw [hb11.cell (by first | omega | (simp; done) | (simp; omega))]; simp [go_sem, *])
      have hl11_2 : w4.heap.size < w11.heap.size := Nat.lt_of_lt_of_le (by first | omega | (simp; done) | (simp; omega)) hb11.size
      have q11_20 : w11.cell? ⟨w4.heap.size, 0, none⟩ = some (.int .i64 gd) := (by rw [hb11.cell (by first | omega | (simp; done) | (simp; omega))]; simp [go_sem, *])
      have q11_21 : w11.cell? ⟨w4.heap.size, 1, none⟩ = some (.int .i64 gt) := (by rw [hb11.cell (by first | omega | (simp; done) | (simp; omega))]; simp [go_sem, *])
      have hl11_3 : w10.heap.size < w11.heap.size := Nat.lt_of_lt_of_le (by first | omega | (simp; done) | (simp; omega)) hb11.size
      have q11_30 : w11.cell? ⟨w10.heap.size, 0, none⟩ = some (.int .i64 p1) := (by rw [hb11.cell (by first | omega | (simp; done) | (simp; omega))]; simp [go_sem, *])
      have q11_31 : w11.cell? ⟨w10.heap.size, 1, none⟩ = some (.int .i64 q1) := (by rw [hb11.cell (by first | omega | (simp; done) | (simp; omega))]; simp [go_sem, *])
      have B11 : Below w.heap.size w w11 := Below.trans (by repeat' (first | (with_reducible exact Below.refl _ _) | (with_reducible assumption) | (with_reducible refine Below.alloc ?_ ?_ _) | (with_reducible refine Below.drew ?_) | (with_reducible refine belowDraws ?_ _) | (with_reducible refine Below.setCell ?_ ?_ _) | omega | (simp; done) | (simp; omega))) (hb11.mono (by first | omega | (simp; done) | (simp; omega)))
      have hz11 := B11.size
      clear q10_00 q10_01 q10_10 q10_11 q10_20 q10_21 hl10_0 hl10_1 hl10_2
      clear hb11
      obtain ⟨dcs, hdcs⟩ : ∃ x, decades s = x := ⟨_, rfl⟩
      have hd1 := decades_bd s
      rw [hdcs] at hd1 ⊢
      have nl_0 := hl11_0
      have nl_1 := hl11_1
      have nl_2 := hl11_2
      have nl_3 := hl11_3
      go_wp2_with fail
      refine (roll_any A n c l 602 _ hl hn h8 ?_).mono ?_
      · first | exact hs | exact (hs.over (by repeat' (first | (with_reducible exact Below.refl _ _) | (with_reducible assumption) | (with_reducible refine Below.alloc ?_ ?_ _) | (with_reducible refine Below.drew ?_) | (with_reducible refine belowDraws ?_ _) | (with_reducible refine Below.setCell ?_ ?_ _) | omega | (simp; done) | (simp; omega)))).wider (by first | omega | (simp; done) | (simp; omega))
      rintro e w12 ⟨bd, rfl, hbd, SD, hb12⟩
      have hl12_0 : w2.heap.size < w12.heap.size := Nat.lt_of_lt_of_le (by first | omega | (simp; done) | (simp; omega)) hb12.size
      have q12_00 : w12.cell? ⟨w2.heap.size, 0, none⟩ = some (.int .i64 fa) := (by rw [hb12.cell (by first | omega | (simp; done) | (simp; omega))]; simp [go_sem, *])
      have q12_01 : w12.cell? ⟨w2.heap.size, 1, none⟩ = some (.int .i64 ft) := (by rw [hb12.cell (by first | omega | (simp; done) | (simp; omega))]; simp [go_sem, *])
      have hl12_1 : w3.heap.size < w12.heap.size := Nat.lt_of_lt_of_le (by first | omega | (simp; done) | (simp; omega)) hb12.size
      have q12_10 : w12.cell? ⟨w3.heap.size, 0, none⟩ = some (.int .i64 fa) := (by rw [hb12.cell (by first | omega | (simp; done) | (simp; omega))]; simp [go_sem, *])
      have q12_11 : w12.cell? ⟨w3.heap.size, 1, none⟩ = some (.int .i64 ft) := (by rw [hb12.cell (by first | omega | (simp; done) | (simp; omega))]; simp [go_sem, *])
      have hl12_2 : w4.heap.size < w12.heap.size := Nat.lt_of_lt_of_le (by first | omega | (simp; done) | (simp; omega)) hb12.size
      have q12_20 : w12.cell? ⟨w4.heap.size, 0, none⟩ = some (.int .i64 gd) := (by rw [hb12.cell (by first | omega | (simp; done) | (simp; omega))]; simp [go_sem, *])
      have q12_21 : w12.cell? ⟨w4.heap.size, 1, none⟩ = some (.int .i64 gt) := (by rw [hb12.cell (by first | omega | (simp; done) | (simp; omega))]; simp [go_sem, *])
      have hl12_3 : w10.heap.size < w12.heap.size := Nat.lt_of_lt_of_le (by first | omega | (simp; done) | (simp; omega)) hb12.size
      have q12_30 : w12.cell? ⟨w10.heap.size, 0, none⟩ = some (.int .i64 p1) := (by rw [hb12.cell (by first | omega | (simp; done) | (simp; omega))]; simp [go_sem, *])
      have q12_31 : w12.cell? ⟨w10.heap.size, 1, none⟩ = some (.int .i64 q1) := (by rw [hb12.cell (by first | omega | (simp; done) | (simp; omega))]; simp [go_sem, *])
      have B12 : Below w.heap.size w w12 := Below.trans (by repeat' (first | (with_reducible exact Below.refl _ _) | (with_reducible assumption) | (with_reducible refine Below.alloc ?_ ?_ _) | (with_reducible refine Below.drew ?_) | (with_reducible refine belowDraws ?_ _) | (with_reducible refine Below.setCell ?_ ?_ _) | omega | (simp; done) | (simp; omega))) (hb12.mono (by first | omega | (simp; done) | (simp; omega)))
      have hz12 := B12.size
      clear q11_00 q11_01 q11_10 q11_11 q11_20 q11_21 q11_30 q11_31 hl11_0 hl11_1 hl11_2 hl11_3
      clear hb12
      have nd_0 : w2.heap.size ≠ bd := by first | omega | (simp at hbd; omega)
      have nd_1 : w3.heap.size ≠ bd := by first | omega | (simp at hbd; omega)
      have nd_2 : w4.heap.size ≠ bd := by first | omega | (simp at hbd; omega)
      have nd_3 : w10.heap.size ≠ bd := by first | omega | (simp at hbd; omega)
      clear nl_0 nl_1 nl_2 nl_3
      have hbw : w.heap.size ≤ bd := by first | omega | (simp at hbd; omega)
      clear hbd
      have S12 := SD
      have y12 := S12.inside
      clear SD
      go_wp2_with fail
      refine (below_any 900 bd A n c l _ hl hn h8 (by repeat' (first | (with_reducible assumption) | (with_reducible refine Dice.alloc ?_ _) | (with_reducible refine Dice.drew ?_) | (with_reducible refine Dice.drewN ?_ _) | (with_reducible refine Dice.set ?_ ?_ _) | (first | omega | (simp; done) | (simp; omega)))) (by omega)).mono ?_
      rintro e w13 ⟨v, rfl, lo13, hi13, S13, g13⟩
      have hl13_0 : w2.heap.size < w13.heap.size := Nat.lt_of_lt_of_le (by first | omega | (simp; done) | (simp; omega)) g13.size
      have q13_00 : w13.cell? ⟨w2.heap.size, 0, none⟩ = some (.int .i64 fa) := (by rw [gCell g13 (by first | omega | (simp; done) | (simp; omega)) (by first | omega | (simp; done) | (simp; omega))]; simp [go_sem, *])
      have q13_01 : w13.cell? ⟨w2.heap.size, 1, none⟩ = some (.int .i64 ft) := (by rw [gCell g13 (by first | omega | (simp; done) | (simp; omega)) (by first | omega | (simp; done) | (simp; omega))]; simp [go_sem, *])
      have hl13_1 : w3.heap.size < w13.heap.size := Nat.lt_of_lt_of_le (by first | omega | (simp; done) | (simp; omega)) g13.size
      have q13_10 : w13.cell? ⟨w3.heap.size, 0, none⟩ = some (.int .i64 fa) := (by rw [gCell g13 (by first | omega | (simp; done) | (simp; omega)) (by first | omega | (simp; done) | (simp; omega))]; simp [go_sem, *])
      have q13_11 : w13.cell? ⟨w3.heap.size, 1, none⟩ = some (.int .i64 ft) := (by rw [gCell g13 (by first | omega | (simp; done) | (simp; omega)) (by first | omega | (simp; done) | (simp; omega))]; simp [go_sem, *])
      have hl13_2 : w4.heap.size < w13.heap.size := Nat.lt_of_lt_of_le (by first | omega | (simp; done) | (simp; omega)) g13.size
      have q13_20 : w13.cell? ⟨w4.heap.size, 0, none⟩ = some (.int .i64 gd) := (by rw [gCell g13 (by first | omega | (simp; done) | (simp; omega)) (by first | omega | (simp; done) | (simp; omega))]; simp [go_sem, *])
      have q13_21 : w13.cell? ⟨w4.heap.size, 1, none⟩ = some (.int .i64 gt) := (by rw [gCell g13 (by first | omega | (simp; done) | (simp; omega)) (by first | omega | (simp; done) | (simp; omega))]; simp [go_sem, *])
      have hl13_3 : w10.heap.size < w13.heap.size := Nat.lt_of_lt_of_le (by first | omega | (simp; done) | (simp; omega)) g13.size
      have q13_30 : w13.cell? ⟨w10.heap.size, 0, none⟩ = some (.int .i64 p1) := (by rw [gCell g13 (by first | omega | (simp; done) | (simp; omega)) (by first | omega | (simp; done) | (simp; omega))]; simp [go_sem, *])
      have q13_31 : w13.cell? ⟨w10.heap.size, 1, none⟩ = some (.int .i64 q1) := (by rw [gCell g13 (by first | omega | (simp; done) | (simp; omega)) (by first | omega | (simp; done) | (simp; omega))]; simp [go_sem, *])
      have B13 : Below w.heap.size w w13 := Below.trans (by repeat' (first | (with_reducible exact Below.refl _ _) | (with_reducible assumption) | (with_reducible refine Below.alloc ?_ ?_ _) | (with_reducible refine Below.drew ?_) | (with_reducible refine belowDraws ?_ _) | (with_reducible refine Below.setCell ?_ ?_ _) | omega | (simp; done) | (simp; omega))) (gBelow g13 hbw (by first | omega | (simp; done) | (simp; omega)))
      have hz13 := B13.size
      have y13 := S13.inside
      clear q12_00 q12_01 q12_10 q12_11 q12_20 q12_21 q12_30 q12_31 hl12_0 hl12_1 hl12_2 hl12_3
      clear g13
      go_wp2_with fail
      refine (below_any dcs bd A n c l _ hl hn h8 (by repeat' (first | (with_reducible assumption) | (with_reducible refine Dice.alloc ?_ _) | (with_reducible refine Dice.drew ?_) | (with_reducible refine Dice.drewN ?_ _) | (with_reducible refine Dice.set ?_ ?_ _) | (first | omega | (simp; done) | (simp; omega)))) (by omega)).mono ?_
      rintro e w14 ⟨t, rfl, lo14, hi14, S14, g14⟩
      have hl14_0 : w2.heap.size < w14.heap.size := Nat.lt_of_lt_of_le (by first | omega | (simp; done) | (simp; omega)) g14.size
      have q14_00 : w14.cell? ⟨w2.heap.size, 0, none⟩ = some (.int .i64 fa) := (by rw [gCell g14 (by first | omega | (simp; done) | (simp; omega)) (by first | omega | (simp; done) | (simp; omega))]; simp [go_sem, *])
      have q14_01 : w14.cell? ⟨w2.heap.size, 1, none⟩ = some (.int .i64 ft) := (by rw [gCell g14 (by first | omega | (simp; done) | (simp; omega)) (by first | omega | (simp; done) | (simp; omega))]; simp [go_sem, *])
      have hl14_1 : w3.heap.size < w14.heap.size := Nat.lt_of_lt_of_le (by first | omega | (simp; done) | (simp; omega)) g14.size
      have q14_10 : w14.cell? ⟨w3.heap.size, 0, none⟩ = some (.int .i64 fa) := (by rw [gCell g14 (by first | omega | (simp; done) | (simp; omega)) (by first | omega | (simp; done) | (simp; omega))]; simp [go_sem, *])
      have q14_11 : w14.cell? ⟨w3.heap.size, 1, none⟩ = some (.int .i64 ft) := (by rw [gCell g14 (by first | omega | (simp; done) | (simp; omega)) (by first | omega | (simp; done) | (simp; omega))]; simp [go_sem, *])
      have hl14_2 : w4.heap.size < w14.heap.size := Nat.lt_of_lt_of_le (by first | omega | (simp; done) | (simp; omega)) g14.size
      have q14_20 : w14.cell? ⟨w4.heap.size, 0, none⟩ = some (.int .i64 gd) := (by rw [gCell g14 (by first | omega | (simp; done) | (simp; omega)) (by first | omega | (simp; done) | (simp; omega))]; simp [go_sem, *])
      have q14_21 : w14.cell? ⟨w4.heap.size, 1, none⟩ = some (.int .i64 gt) := (by rw [gCell g14 (by first | omega | (simp; done) | (simp; omega)) (by first | omega | (simp; done) | (simp; omega))]; simp [go_sem, *])
      have hl14_3 : w10.heap.size < w14.heap.size := Nat.lt_of_lt_of_le (by first | omega | (simp; done) | (simp; omega)) g14.size
      have q14_30 : w14.cell? ⟨w10.heap.size, 0, none⟩ = some (.int .i64 p1) := (by rw [gCell g14 (by first | omega | (simp; done) | (simp; omega)) (by first | omega | (simp; done) | (simp; omega))]; simp [go_sem, *])
      have q14_31 : w14.cell? ⟨w10.heap.size, 1, none⟩ = some (.int .i64 q1) := (by rw [gCell g14 (by first | omega | (simp; done) | (simp; omega)) (by first | omega | (simp; done) | (simp; omega))]; simp [go_sem, *])
      have B14 : Below w.heap.size w w14 := Below.trans (by repeat' (first | (with_reducible exact Below.refl _ _) | (with_reducible assumption) | (with_reducible refine Below.alloc ?_ ?_ _) | (with_reducible refine Below.drew ?_) | (with_reducible refine belowDraws ?_ _) | (with_reducible refine Below.setCell ?_ ?_ _) | omega | (simp; done) | (simp; omega))) (gBelow g14 hbw (by first | omega | (simp; done) | (simp; omega)))
      have hz14 := B14.size
      have y14 := S14.inside
      clear q13_00 q13_01 q13_10 q13_11 q13_20 q13_21 q13_30 q13_31 hl13_0 hl13_1 hl13_2 hl13_3
      clear g14
      have hD : Dig (1000 + 10 * v) := by unfold Dig; omega
      have PM := fun W => iPlaceOf_fit s (1000 + 10 * v) t len W hD ⟨by omega, by omega⟩ l1 l2 (ckPlace_fits (s := s) (len := len) hD ⟨s1, s2⟩ lo14 (by omega) ⟨l1, l2⟩).2
      have bq := pl_bd (s := s) (t := t) hD l1 l2
      obtain ⟨nn, hnn, enn⟩ := fig_num (s := s) lo13 hi13 lo14 (by omega)
      have HF := HA nn hnn
      simp only [enn] at HF
      obtain ⟨p2, hp2⟩ : ∃ x, plL s (1000 + 10 * v) t len = x := ⟨_, rfl⟩
      obtain ⟨q2, hq2⟩ : ∃ x, plU s (1000 + 10 * v) t len = x := ⟨_, rfl⟩
      rw [hp2, hq2] at PM bq HF
      clear hp2 hq2 hD hnn enn HA hdcs
      go_wp2_with fail
      refine (PM _).mono ?_
      rintro e w15 ⟨rfl, hb15⟩
      have hl15_0 : w2.heap.size < w15.heap.size := Nat.lt_of_lt_of_le (by first | omega | (simp; done) | (simp; omega)) hb15.size
      have q15_00 : w15.cell? ⟨w2.heap.size, 0, none⟩ = some (.int .i64 fa) := (by rw [hb15.cell (by first | omega | (simp; done) | (simp; omega))]; simp [go_sem, *])
      have q15_01 : w15.cell? ⟨w2.heap.size, 1, none⟩ = some (.int .i64 ft) := (by rw [hb15.cell (by first | omega | (simp; done) | (simp; omega))]; simp [go_sem, *])
      have hl15_1 : w3.heap.size < w15.heap.size := Nat.lt_of_lt_of_le (by first | omega | (simp; done) | (simp; omega)) hb15.size
      have q15_10 : w15.cell? ⟨w3.heap.size, 0, none⟩ = some (.int .i64 fa) := (by rw [hb15.cell (by first | omega | (simp; done) | (simp; omega))]; simp [go_sem, *])
      have q15_11 : w15.cell? ⟨w3.heap.size, 1, none⟩ = some (.int .i64 ft) := (by rw [hb15.cell (by first | omega | (simp; done) | (simp; omega))]; simp [go_sem, *])
      have hl15_2 : w4.heap.size < w15.heap.size := Nat.lt_of_lt_of_le (by first | omega | (simp; done) | (simp; omega)) hb15.size
      have q15_20 : w15.cell? ⟨w4.heap.size, 0, none⟩ = some (.int .i64 gd) := (by rw [hb15.cell (by first | omega | (simp; done) | (simp; omega))]; simp [go_sem, *])
      have q15_21 : w15.cell? ⟨w4.heap.size, 1, none⟩ = some (.int .i64 gt) := (by rw [hb15.cell (by first | omega | (simp; done) | (simp; omega))]; simp [go_sem, *])
      have hl15_3 : w10.heap.size < w15.heap.size := Nat.lt_of_lt_of_le (by first | omega | (simp; done) | (simp; omega)) hb15.size
      have q15_30 : w15.cell? ⟨w10.heap.size, 0, none⟩ = some (.int .i64 p1) := (by rw [hb15.cell (by first | omega | (simp; done) | (simp; omega))]; simp [go_sem, *])
      have q15_31 : w15.cell? ⟨w10.heap.size, 1, none⟩ = some (.int .i64 q1) := (by rw [hb15.cell (by first | omega | (simp; done) | (simp; omega))]; simp [go_sem, *])
      have B15 : Below w.heap.size w w15 := Below.trans (by repeat' (first | (with_reducible exact Below.refl _ _) | (with_reducible assumption) | (with_reducible refine Below.alloc ?_ ?_ _) | (with_reducible refine Below.drew ?_) | (with_reducible refine belowDraws ?_ _) | (with_reducible refine Below.setCell ?_ ?_ _) | omega | (simp; done) | (simp; omega))) (hb15.mono (by first | omega | (simp; done) | (simp; omega)))
      have hz15 := B15.size
      have S15 : Dice w15 bd A n c l := Dice.over (by repeat' (first | (with_reducible assumption) | (with_reducible refine Dice.alloc ?_ _) | (with_reducible refine Dice.drew ?_) | (with_reducible refine Dice.drewN ?_ _) | (with_reducible refine Dice.set ?_ ?_ _) | (first | omega | (simp; done) | (simp; omega)))) hb15
      have y15 := S15.inside
      clear q14_00 q14_01 q14_10 q14_11 q14_20 q14_21 q14_30 q14_31 hl14_0 hl14_1 hl14_2 hl14_3
      clear hb15
      clear PM
      have e1 : IntKind.i64.wrap (p1 + q1) = p1 + q1 := IntWalk.i64_in _ (by omega)
      have e2 : IntKind.i64.wrap (2 * pt) = 2 * pt := IntWalk.i64_in _ (by omega)
      have e3 : IntKind.i64.wrap (p2 + q2) = p2 + q2 := IntWalk.i64_in _ (by omega)
      obtain ⟨o1, ho1⟩ : ∃ x, p1 + q1 - 2 * pt = x := ⟨_, rfl⟩
      obtain ⟨o2, ho2⟩ : ∃ x, p2 + q2 - 2 * pt = x := ⟨_, rfl⟩
      have e4 : IntKind.i64.wrap (p1 + q1 - 2 * pt) = o1 := (IntWalk.i64_in _ (by omega)).trans ho1
      have e5 : IntKind.i64.wrap (p2 + q2 - 2 * pt) = o2 := (IntWalk.i64_in _ (by omega)).trans ho2
      rw [ho1, ho2] at HF
      have b1 : -1000000 ≤ o1 ∧ o1 ≤ 1000000 := by omega
      have b2 : -1000000 ≤ o2 ∧ o2 ≤ 1000000 := by omega
      replace HF := Lib.hid HF
      clear ho1 ho2
      go_wp2_with fail
      go_quiet (fail)
      all_goals clear e1 e2 e3 e4 e5
      all_goals (by_cases c1 : 0 ≤ o1 <;> by_cases c2 : 0 ≤ o2)
      all_goals go_wp2_with fail
      all_goals go_ret
      all_goals exact ⟨endBool (by have := HF.out; simp; omega), by repeat' (first | (with_reducible exact Below.refl _ _) | (with_reducible assumption) | (with_reducible refine Below.alloc ?_ ?_ _) | (with_reducible refine Below.drew ?_) | (with_reducible refine belowDraws ?_ _) | (with_reducible refine Below.setCell ?_ ?_ _) | omega | (simp; done) | (simp; omega))⟩
    · rw [rBest, if_neg hp] at I1 S1
      simp only [endFC] at I1 S1
      clear hp
      go_wp2_with fail
      refine (I1 _).mono ?_
      rintro e w2 ⟨rfl, hb2⟩
      have B2 : Below w.heap.size w w2 := Below.trans (by repeat' (first | (with_reducible exact Below.refl _ _) | (with_reducible assumption) | (with_reducible refine Below.alloc ?_ ?_ _) | (with_reducible refine Below.drew ?_) | (with_reducible refine belowDraws ?_ _) | (with_reducible refine Below.setCell ?_ ?_ _) | omega | (simp; done) | (simp; omega))) (hb2.mono (by first | omega | (simp; done) | (simp; omega)))
      have hz2 := B2.size
      clear hb2
      go_wp2_with fail
      refine (S1 _).mono ?_
      rintro e w3 ⟨rfl, hb3⟩
      have hl3_0 : w2.heap.size < w3.heap.size := Nat.lt_of_lt_of_le (by first | omega | (simp; done) | (simp; omega)) hb3.size
      have q3_00 : w3.cell? ⟨w2.heap.size, 0, none⟩ = some (.int .i64 0) := (by rw [hb3.cell (by first | omega | (simp; done) | (simp; omega))]; simp [go_sem, *])
      have q3_01 : w3.cell? ⟨w2.heap.size, 1, none⟩ = some (.int .i64 0) := (by rw [hb3.cell (by first | omega | (simp; done) | (simp; omega))]; simp [go_sem, *])
      have B3 : Below w.heap.size w w3 := Below.trans (by repeat' (first | (with_reducible exact Below.refl _ _) | (with_reducible assumption) | (with_reducible refine Below.alloc ?_ ?_ _) | (with_reducible refine Below.drew ?_) | (with_reducible refine belowDraws ?_ _) | (with_reducible refine Below.setCell ?_ ?_ _) | omega | (simp; done) | (simp; omega))) (hb3.mono (by first | omega | (simp; done) | (simp; omega)))
      have hz3 := B3.size
      clear hb3
      clear I1 S1
      go_wp2_with fail
      refine (DrawMayBeAt_any A n c l _ hl hn h8 ?_).mono ?_
      · first | exact hs | exact (hs.over (by repeat' (first | (with_reducible exact Below.refl _ _) | (with_reducible assumption) | (with_reducible refine Below.alloc ?_ ?_ _) | (with_reducible refine Below.drew ?_) | (with_reducible refine belowDraws ?_ _) | (with_reducible refine Below.setCell ?_ ?_ _) | omega | (simp; done) | (simp; omega)))).wider (by first | omega | (simp; done) | (simp; omega))
      rintro e w4 ⟨sx, gd, gt, lx, ax, ex, rfl, hb4⟩
      have hl4_0 : w2.heap.size < w4.heap.size := Nat.lt_of_lt_of_le (by first | omega | (simp; done) | (simp; omega)) hb4.size
      have q4_00 : w4.cell? ⟨w2.heap.size, 0, none⟩ = some (.int .i64 0) := (by rw [hb4.cell (by first | omega | (simp; done) | (simp; omega))]; simp [go_sem, *])
      have q4_01 : w4.cell? ⟨w2.heap.size, 1, none⟩ = some (.int .i64 0) := (by rw [hb4.cell (by first | omega | (simp; done) | (simp; omega))]; simp [go_sem, *])
      have hl4_1 : w3.heap.size < w4.heap.size := Nat.lt_of_lt_of_le (by first | omega | (simp; done) | (simp; omega)) hb4.size
      have q4_10 : w4.cell? ⟨w3.heap.size, 0, none⟩ = some (.int .i64 0) := (by rw [hb4.cell (by first | omega | (simp; done) | (simp; omega))]; simp [go_sem, *])
      have q4_11 : w4.cell? ⟨w3.heap.size, 1, none⟩ = some (.int .i64 0) := (by rw [hb4.cell (by first | omega | (simp; done) | (simp; omega))]; simp [go_sem, *])
      have B4 : Below w.heap.size w w4 := Below.trans (by repeat' (first | (with_reducible exact Below.refl _ _) | (with_reducible assumption) | (with_reducible refine Below.alloc ?_ ?_ _) | (with_reducible refine Below.drew ?_) | (with_reducible refine belowDraws ?_ _) | (with_reducible refine Below.setCell ?_ ?_ _) | omega | (simp; done) | (simp; omega))) (hb4.mono (by first | omega | (simp; done) | (simp; omega)))
      have hz4 := B4.size
      clear q3_00 q3_01 hl3_0
      clear hb4
      have I2 := fun W => iMayBeAt_any sx gd gt lx ax ex W
      have S2 := fun W => sMayBeAt_any sx gd gt lx ax ex W
      obtain ⟨⟨ok, one⟩, H2⟩ : ∃ p, Hid (rMay sx gd gt lx ax ex = p) := ⟨_, Lib.hid rfl⟩
      rw [H2.out] at I2 S2
      simp only at I2 S2
      clear H2
      go_wp2_with fail
      refine (I2 _).mono ?_
      rintro e w5 ⟨rfl, hb5⟩
      have hl5_0 : w2.heap.size < w5.heap.size := Nat.lt_of_lt_of_le (by first | omega | (simp; done) | (simp; omega)) hb5.size
      have q5_00 : w5.cell? ⟨w2.heap.size, 0, none⟩ = some (.int .i64 0) := (by rw [hb5.cell (by first | omega | (simp; done) | (simp; omega))]; simp [go_sem, *])
      have q5_01 : w5.cell? ⟨w2.heap.size, 1, none⟩ = some (.int .i64 0) := (by rw [hb5.cell (by first | omega | (simp; done) | (simp; omega))]; simp [go_sem, *])
      have hl5_1 : w3.heap.size < w5.heap.size := Nat.lt_of_lt_of_le (by first | omega | (simp; done) | (simp; omega)) hb5.size
      have q5_10 : w5.cell? ⟨w3.heap.size, 0, none⟩ = some (.int .i64 0) := (by rw [hb5.cell (by first | omega | (simp; done) | (simp; omega))]; simp [go_sem, *])
      have q5_11 : w5.cell? ⟨w3.heap.size, 1, none⟩ = some (.int .i64 0) := (by rw [hb5.cell (by first | omega | (simp; done) | (simp; omega))]; simp [go_sem, *])
      have hl5_2 : w4.heap.size < w5.heap.size := Nat.lt_of_lt_of_le (by first | omega | (simp; done) | (simp; omega)) hb5.size
      have q5_20 : w5.cell? ⟨w4.heap.size, 0, none⟩ = some (.int .i64 gd) := (by rw [hb5.cell (by first | omega | (simp; done) | (simp; omega))]; simp [go_sem, *])
      have q5_21 : w5.cell? ⟨w4.heap.size, 1, none⟩ = some (.int .i64 gt) := (by rw [hb5.cell (by first | omega | (simp; done) | (simp; omega))]; simp [go_sem, *])
      have B5 : Below w.heap.size w w5 := Below.trans (by repeat' (first | (with_reducible exact Below.refl _ _) | (with_reducible assumption) | (with_reducible refine Below.alloc ?_ ?_ _) | (with_reducible refine Below.drew ?_) | (with_reducible refine belowDraws ?_ _) | (with_reducible refine Below.setCell ?_ ?_ _) | omega | (simp; done) | (simp; omega))) (hb5.mono (by first | omega | (simp; done) | (simp; omega)))
      have hz5 := B5.size
      clear q4_00 q4_01 q4_10 q4_11 hl4_0 hl4_1
      clear hb5
      go_wp2_with fail
      refine (S2 _).mono ?_
      rintro e w6 ⟨rfl, hb6⟩
      have hl6_0 : w2.heap.size < w6.heap.size := Nat.lt_of_lt_of_le (by first | omega | (simp; done) | (simp; omega)) hb6.size
      have q6_00 : w6.cell? ⟨w2.heap.size, 0, none⟩ = some (.int .i64 0) := (by rw [hb6.cell (by first | omega | (simp; done) | (simp; omega))]; simp [go_sem, *])
      have q6_01 : w6.cell? ⟨w2.heap.size, 1, none⟩ = some (.int .i64 0) := (by rw [hb6.cell (by first | omega | (simp; done) | (simp; omega))]; simp [go_sem, *])
      have hl6_1 : w3.heap.size < w6.heap.size := Nat.lt_of_lt_of_le (by first | omega | (simp; done) | (simp; omega)) hb6.size
      have q6_10 : w6.cell? ⟨w3.heap.size, 0, none⟩ = some (.int .i64 0) := (by rw [hb6.cell (by first | omega | (simp; done) | (simp; omega))]; simp [go_sem, *])
      have q6_11 : w6.cell? ⟨w3.heap.size, 1, none⟩ = some (.int .i64 0) := (by rw [hb6.cell (by first | omega | (simp; done) | (simp; omega))]; simp [go_sem, *])
      have hl6_2 : w4.heap.size < w6.heap.size := Nat.lt_of_lt_of_le (by first | omega | (simp; done) | (simp; omega)) hb6.size
      have q6_20 : w6.cell? ⟨w4.heap.size, 0, none⟩ = some (.int .i64 gd) := (by rw [hb6.cell (by first | omega | (simp; done) | (simp; omega))]; simp [go_sem, *])
      have q6_21 : w6.cell? ⟨w4.heap.size, 1, none⟩ = some (.int .i64 gt) := (by rw [hb6.cell (by first | omega | (simp; done) | (simp; omega))]; simp [go_sem, *])
      have B6 : Below w.heap.size w w6 := Below.trans (by repeat' (first | (with_reducible exact Below.refl _ _) | (with_reducible assumption) | (with_reducible refine Below.alloc ?_ ?_ _) | (with_reducible refine Below.drew ?_) | (with_reducible refine belowDraws ?_ _) | (with_reducible refine Below.setCell ?_ ?_ _) | omega | (simp; done) | (simp; omega))) (hb6.mono (by first | omega | (simp; done) | (simp; omega)))
      have hz6 := B6.size
      clear q5_00 q5_01 q5_10 q5_11 q5_20 q5_21 hl5_0 hl5_1 hl5_2
      clear hb6
      clear I2 S2
      go_wp2_with fail
      refine (DrawReadError_any A n c l _ hl hn h8 ?_).mono ?_
      · first | exact hs | exact (hs.over (by repeat' (first | (with_reducible exact Below.refl _ _) | (with_reducible assumption) | (with_reducible refine Below.alloc ?_ ?_ _) | (with_reducible refine Below.drew ?_) | (with_reducible refine belowDraws ?_ _) | (with_reducible refine Below.setCell ?_ ?_ _) | omega | (simp; done) | (simp; omega)))).wider (by first | omega | (simp; done) | (simp; omega))
      rintro e w7 ⟨ea, eb, ec, ed, rfl, hb7⟩
      have hl7_0 : w2.heap.size < w7.heap.size := Nat.lt_of_lt_of_le (by first | omega | (simp; done) | (simp; omega)) hb7.size
      have q7_00 : w7.cell? ⟨w2.heap.size, 0, none⟩ = some (.int .i64 0) := (by rw [hb7.cell (by first | omega | (simp; done) | (simp; omega))]; simp [go_sem, *])
      have q7_01 : w7.cell? ⟨w2.heap.size, 1, none⟩ = some (.int .i64 0) := (by rw [hb7.cell (by first | omega | (simp; done) | (simp; omega))]; simp [go_sem, *])
      have hl7_1 : w3.heap.size < w7.heap.size := Nat.lt_of_lt_of_le (by first | omega | (simp; done) | (simp; omega)) hb7.size
      have q7_10 : w7.cell? ⟨w3.heap.size, 0, none⟩ = some (.int .i64 0) := (by rw [hb7.cell (by first | omega | (simp; done) | (simp; omega))]; simp [go_sem, *])
      have q7_11 : w7.cell? ⟨w3.heap.size, 1, none⟩ = some (.int .i64 0) := (by rw [hb7.cell (by first | omega | (simp; done) | (simp; omega))]; simp [go_sem, *])
      have hl7_2 : w4.heap.size < w7.heap.size := Nat.lt_of_lt_of_le (by first | omega | (simp; done) | (simp; omega)) hb7.size
      have q7_20 : w7.cell? ⟨w4.heap.size, 0, none⟩ = some (.int .i64 gd) := (by rw [hb7.cell (by first | omega | (simp; done) | (simp; omega))]; simp [go_sem, *])
      have q7_21 : w7.cell? ⟨w4.heap.size, 1, none⟩ = some (.int .i64 gt) := (by rw [hb7.cell (by first | omega | (simp; done) | (simp; omega))]; simp [go_sem, *])
      have B7 : Below w.heap.size w w7 := Below.trans (by repeat' (first | (with_reducible exact Below.refl _ _) | (with_reducible assumption) | (with_reducible refine Below.alloc ?_ ?_ _) | (with_reducible refine Below.drew ?_) | (with_reducible refine belowDraws ?_ _) | (with_reducible refine Below.setCell ?_ ?_ _) | omega | (simp; done) | (simp; omega))) (hb7.mono (by first | omega | (simp; done) | (simp; omega)))
      have hz7 := B7.size
      clear q6_00 q6_01 q6_10 q6_11 q6_20 q6_21 hl6_0 hl6_1 hl6_2
      clear hb7
      have I3 := fun W => iReadError_any ea eb ec ed W
      have S3 := fun W => sReadError_any ea eb ec ed W
      obtain ⟨⟨en, three⟩, H3⟩ : ∃ p, Hid (rReadE ea eb ec ed = p) := ⟨_, Lib.hid rfl⟩
      rw [H3.out] at I3 S3
      simp only at I3 S3
      clear H3
      go_wp2_with fail
      refine (I3 _).mono ?_
      rintro e w8 ⟨rfl, hb8⟩
      have hl8_0 : w2.heap.size < w8.heap.size := Nat.lt_of_lt_of_le (by first | omega | (simp; done) | (simp; omega)) hb8.size
      have q8_00 : w8.cell? ⟨w2.heap.size, 0, none⟩ = some (.int .i64 0) := (by rw [hb8.cell (by first | omega | (simp; done) | (simp; omega))]; simp [go_sem, *])
      have q8_01 : w8.cell? ⟨w2.heap.size, 1, none⟩ = some (.int .i64 0) := (by rw [hb8.cell (by first | omega | (simp; done) | (simp; omega))]; simp [go_sem, *])
      have hl8_1 : w3.heap.size < w8.heap.size := Nat.lt_of_lt_of_le (by first | omega | (simp; done) | (simp; omega)) hb8.size
      have q8_10 : w8.cell? ⟨w3.heap.size, 0, none⟩ = some (.int .i64 0) := (by rw [hb8.cell (by first | omega | (simp; done) | (simp; omega))]; simp [go_sem, *])
      have q8_11 : w8.cell? ⟨w3.heap.size, 1, none⟩ = some (.int .i64 0) := (by rw [hb8.cell (by first | omega | (simp; done) | (simp; omega))]; simp [go_sem, *])
      have hl8_2 : w4.heap.size < w8.heap.size := Nat.lt_of_lt_of_le (by first | omega | (simp; done) | (simp; omega)) hb8.size
      have q8_20 : w8.cell? ⟨w4.heap.size, 0, none⟩ = some (.int .i64 gd) := (by rw [hb8.cell (by first | omega | (simp; done) | (simp; omega))]; simp [go_sem, *])
      have q8_21 : w8.cell? ⟨w4.heap.size, 1, none⟩ = some (.int .i64 gt) := (by rw [hb8.cell (by first | omega | (simp; done) | (simp; omega))]; simp [go_sem, *])
      have B8 : Below w.heap.size w w8 := Below.trans (by repeat' (first | (with_reducible exact Below.refl _ _) | (with_reducible assumption) | (with_reducible refine Below.alloc ?_ ?_ _) | (with_reducible refine Below.drew ?_) | (with_reducible refine belowDraws ?_ _) | (with_reducible refine Below.setCell ?_ ?_ _) | omega | (simp; done) | (simp; omega))) (hb8.mono (by first | omega | (simp; done) | (simp; omega)))
      have hz8 := B8.size
      clear q7_00 q7_01 q7_10 q7_11 q7_20 q7_21 hl7_0 hl7_1 hl7_2
      clear hb8
      go_wp2_with fail
      refine (S3 _).mono ?_
      rintro e w9 ⟨rfl, hb9⟩
      have hl9_0 : w2.heap.size < w9.heap.size := Nat.lt_of_lt_of_le (by first | omega | (simp; done) | (simp; omega)) hb9.size
      have q9_00 : w9.cell? ⟨w2.heap.size, 0, none⟩ = some (.int .i64 0) := (by rw [hb9.cell (by first | omega | (simp; done) | (simp; omega))]; simp [go_sem, *])
      have q9_01 : w9.cell? ⟨w2.heap.size, 1, none⟩ = some (.int .i64 0) := (by rw [hb9.cell (by first | omega | (simp; done) | (simp; omega))]; simp [go_sem, *])
      have hl9_1 : w3.heap.size < w9.heap.size := Nat.lt_of_lt_of_le (by first | omega | (simp; done) | (simp; omega)) hb9.size
      have q9_10 : w9.cell? ⟨w3.heap.size, 0, none⟩ = some (.int .i64 0) := (by rw [hb9.cell (by first | omega | (simp; done) | (simp; omega))]; simp [go_sem, *])
      have q9_11 : w9.cell? ⟨w3.heap.size, 1, none⟩ = some (.int .i64 0) := (by rw [hb9.cell (by first | omega | (simp; done) | (simp; omega))]; simp [go_sem, *])
      have hl9_2 : w4.heap.size < w9.heap.size := Nat.lt_of_lt_of_le (by first | omega | (simp; done) | (simp; omega)) hb9.size
      have q9_20 : w9.cell? ⟨w4.heap.size, 0, none⟩ = some (.int .i64 gd) := (by rw [hb9.cell (by first | omega | (simp; done) | (simp; omega))]; simp [go_sem, *])
      have q9_21 : w9.cell? ⟨w4.heap.size, 1, none⟩ = some (.int .i64 gt) := (by rw [hb9.cell (by first | omega | (simp; done) | (simp; omega))]; simp [go_sem, *])
      have B9 : Below w.heap.size w w9 := Below.trans (by repeat' (first | (with_reducible exact Below.refl _ _) | (with_reducible assumption) | (with_reducible refine Below.alloc ?_ ?_ _) | (with_reducible refine Below.drew ?_) | (with_reducible refine belowDraws ?_ _) | (with_reducible refine Below.setCell ?_ ?_ _) | omega | (simp; done) | (simp; omega))) (hb9.mono (by first | omega | (simp; done) | (simp; omega)))
      have hz9 := B9.size
      clear q8_00 q8_01 q8_10 q8_11 q8_20 q8_21 hl8_0 hl8_1 hl8_2
      clear hb9
      clear I3 S3
      go_wp2_with fail
      all_goals go_ret
      all_goals exact ⟨endBool (by simp_all), by repeat' (first | (with_reducible exact Below.refl _ _) | (with_reducible assumption) | (with_reducible refine Below.alloc ?_ ?_ _) | (with_reducible refine Below.drew ?_) | (with_reducible refine belowDraws ?_ _) | (with_reducible refine Below.setCell ?_ ?_ _) | omega | (simp; done) | (simp; omega))⟩
end Go.Proofs.Ythnjiiodpjielaa
