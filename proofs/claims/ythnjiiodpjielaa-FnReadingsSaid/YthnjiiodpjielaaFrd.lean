/- The law FnReadings (layer 6). No condition. -/
import Derived.Test.YthnjiiodpjielaaCr
import Derived.Test.YthnjiiodpjielaaCf
import Derived.Test.YthnjiiodpjielaaDr9
import Derived.Test.YthnjiiodpjielaaDice
import Derived.Test.YthnjiiodpjielaaLike
namespace Go.Proofs.Ythnjiiodpjielaa
open Go.RowKit
set_option linter.unusedVariables false
set_option linter.unusedSimpArgs false

theorem rMay_fit {s d t len pt eye : Int} (hf : figB d t = true) (hp : ptB s len pt eye = true) (hc : ckShown s d t = 0) : rMay s d t len pt eye = (mayB s d t len pt eye, 0) := by
  rw [rMay, if_pos hf, if_pos (by rw [hp, hc]; rfl)]
theorem rCountR_in {s len pt eye : Int} (hp : ptB s len pt eye = true) : rCountR s len pt eye = (((reads s len pt eye).length : Int), 0) := by rw [rCountR, if_pos hp]
set_option maxRecDepth 100000 in
set_option maxHeartbeats 16000000 in
theorem fnReadings_walk (A : Option Addr) (n c : Nat) (l : List Int) (w : World) (hl : l.length = n) (_hc : n ≤ c) (hm : c ≤ maxLen) (hs : Sees w w.heap.size A (l.map (Value.int .u8))) (h8 : U8s l) :
    Calls Try.prog 4 #[.slice A n c] w fun e w' => e = .returned (.bool true) ∧ Below w.heap.size w w' := by
  unfold maxLen at hm
  have BG := fun W => big_small A n c W (by omega)
  by_cases hbig : 4096 < n
  · rw [show decide (4096 < n) = true from decide_eq_true hbig] at BG
    go_enter Try.func4, Try.ntmps4
    go_wp2_with (go_at_call 8; refine (BG _).mono ?_; rintro e w' ⟨rfl, rfl⟩)
    go_ret
    exact ⟨rfl, Below.refl _ _⟩
  · rw [show decide (4096 < n) = false from decide_eq_false hbig] at BG
    have hn : n ≤ 1048576 := by omega
    go_enter Try.func4, Try.ntmps4
    go_wp2_with (go_at_call 8; refine (BG _).mono ?_; rintro e w' ⟨rfl, rfl⟩)
    clear BG
    go_wp2_with fail
    refine (DrawFirstReading_any A n c l _ hl hn h8 ?_).mono ?_
    · first | exact hs | exact (hs.over (by repeat' (first | (with_reducible exact Below.refl _ _) | (with_reducible assumption) | (with_reducible refine Below.alloc ?_ ?_ _) | (with_reducible refine Below.drew ?_) | (with_reducible refine belowDraws ?_ _) | (with_reducible refine Below.setCell ?_ ?_ _) | omega | (simp; done) | (simp; omega)))).wider (by first | omega | (simp; done) | (simp; omega))
    rintro e w1 ⟨s, len, pt, eye, rfl, hb1⟩
    have B1 : Below w.heap.size w w1 := Below.trans (by repeat' (first | (with_reducible exact Below.refl _ _) | (with_reducible assumption) | (with_reducible refine Below.alloc ?_ ?_ _) | (with_reducible refine Below.drew ?_) | (with_reducible refine belowDraws ?_ _) | (with_reducible refine Below.setCell ?_ ?_ _) | omega | (simp; done) | (simp; omega))) (hb1.mono (by first | omega | (simp; done) | (simp; omega)))
    have hz1 := B1.size
    clear hb1
    by_cases hp : ptB s len pt eye = true
    · by_cases hr : reads s len pt eye = []
      · obtain ⟨e1, e2, e3⟩ := rd_nil hp hr
        have I1 := fun W => iFirstReading_any s len pt eye W
        have S1 := fun W => sFirstReading_any s len pt eye W
        have I2 := fun W => iLastReading_any s len pt eye W
        have S2 := fun W => sLastReading_any s len pt eye W
        have I3 := fun W => iCountReadings_any s len pt eye W
        have S3 := fun W => sCountReadings_any s len pt eye W
        rw [e1] at I1 S1
        rw [e2] at I2 S2
        rw [e3] at I3 S3
        simp only [endFC] at I1 S1 I2 S2
        obtain ⟨⟨s1, s2⟩, ⟨l1, l2⟩, _, y1, y2⟩ := ptB_iff.1 hp
        clear hr hp e1 e2 e3
        go_wp2_with fail
        refine (I1 _).mono ?_
        rintro e w2 ⟨rfl, hb2⟩
        have B2 : Below w.heap.size w w2 := Below.trans (by repeat' (first | (with_reducible exact Below.refl _ _) | (with_reducible assumption) | (with_reducible refine Below.alloc ?_ ?_ _) | (with_reducible refine Below.drew ?_) | (with_reducible refine belowDraws ?_ _) | (with_reducible refine Below.setCell ?_ ?_ _) | omega | (simp; done) | (simp; omega))) (hb2.mono (by first | omega | (simp; done) | (simp; omega)))
        have hz2 := B2.size
        clear hb2
        go_wp2_with fail
        refine (S1 _).mono ?_
        rintro e w3 ⟨rfl, hb3⟩
        have hl3_0 : w2.heap.size < w3.heap.size := Nat.lt_of_lt_of_le (by first | omega | (simp; done) | (simp; omega)) hb3.size
        have q3_00 : w3.cell? ⟨w2.heap.size, 0, none⟩ = some (.int .i64 0) := (by rw [hb3.cell (by first | omega | (simp; done) | (simp; omega))]; simp [go_sem, *])
        have q3_01 : w3.cell? ⟨w2.heap.size, 1, none⟩ = some (.int .i64 0) := (by rw [hb3.cell (by first | omega | (simp; done) | (simp; omega))]; simp [go_sem, *])
        have B3 : Below w.heap.size w w3 := Below.trans (by repeat' (first | (with_reducible exact Below.refl _ _) | (with_reducible assumption) | (with_reducible refine Below.alloc ?_ ?_ _) | (with_reducible refine Below.drew ?_) | (with_reducible refine belowDraws ?_ _) | (with_reducible refine Below.setCell ?_ ?_ _) | omega | (simp; done) | (simp; omega))) (hb3.mono (by first | omega | (simp; done) | (simp; omega)))
        have hz3 := B3.size
        clear hb3
        go_wp2_with fail
        refine (I2 _).mono ?_
        rintro e w4 ⟨rfl, hb4⟩
        have hl4_0 : w2.heap.size < w4.heap.size := Nat.lt_of_lt_of_le (by first | omega | (simp; done) | (simp; omega)) hb4.size
        have q4_00 : w4.cell? ⟨w2.heap.size, 0, none⟩ = some (.int .i64 0) := (by rw [hb4.cell (by first | omega | (simp; done) | (simp; omega))]; simp [go_sem, *])
        have q4_01 : w4.cell? ⟨w2.heap.size, 1, none⟩ = some (.int .i64 0) := (by rw [hb4.cell (by first | omega | (simp; done) | (simp; omega))]; simp [go_sem, *])
        have hl4_1 : w3.heap.size < w4.heap.size := Nat.lt_of_lt_of_le (by first | omega | (simp; done) | (simp; omega)) hb4.size
        have q4_10 : w4.cell? ⟨w3.heap.size, 0, none⟩ = some (.int .i64 0) := (by rw [hb4.cell (by first | omega | (simp; done) | (simp; omega))]; simp [go_sem, *])
        have q4_11 : w4.cell? ⟨w3.heap.size, 1, none⟩ = some (.int .i64 0) := (by rw [hb4.cell (by first | omega | (simp; done) | (simp; omega))]; simp [go_sem, *])
        have B4 : Below w.heap.size w w4 := Below.trans (by repeat' (first | (with_reducible exact Below.refl _ _) | (with_reducible assumption) | (with_reducible refine Below.alloc ?_ ?_ _) | (with_reducible refine Below.drew ?_) | (with_reducible refine belowDraws ?_ _) | (with_reducible refine Below.setCell ?_ ?_ _) | omega | (simp; done) | (simp; omega))) (hb4.mono (by first | omega | (simp; done) | (simp; omega)))
        have hz4 := B4.size
        clear q3_00 q3_01 hl3_0
        clear hb4
        go_wp2_with fail
        refine (S2 _).mono ?_
        rintro e w5 ⟨rfl, hb5⟩
        have hl5_0 : w2.heap.size < w5.heap.size := Nat.lt_of_lt_of_le (by first | omega | (simp; done) | (simp; omega)) hb5.size
        have q5_00 : w5.cell? ⟨w2.heap.size, 0, none⟩ = some (.int .i64 0) := (by rw [hb5.cell (by first | omega | (simp; done) | (simp; omega))]; simp [go_sem, *])
        have q5_01 : w5.cell? ⟨w2.heap.size, 1, none⟩ = some (.int .i64 0) := (by rw [hb5.cell (by first | omega | (simp; done) | (simp; omega))]; simp [go_sem, *])
        have hl5_1 : w3.heap.size < w5.heap.size := Nat.lt_of_lt_of_le (by first | omega | (simp; done) | (simp; omega)) hb5.size
        have q5_10 : w5.cell? ⟨w3.heap.size, 0, none⟩ = some (.int .i64 0) := (by rw [hb5.cell (by first | omega | (simp; done) | (simp; omega))]; simp [go_sem, *])
        have q5_11 : w5.cell? ⟨w3.heap.size, 1, none⟩ = some (.int .i64 0) := (by rw [hb5.cell (by first | omega | (simp; done) | (simp; omega))]; simp [go_sem, *])
        have hl5_2 : w4.heap.size < w5.heap.size := Nat.lt_of_lt_of_le (by first | omega | (simp; done) | (simp; omega)) hb5.size
        have q5_20 : w5.cell? ⟨w4.heap.size, 0, none⟩ = some (.int .i64 0) := (by rw [hb5.cell (by first | omega | (simp; done) | (simp; omega))]; simp [go_sem, *])
        have q5_21 : w5.cell? ⟨w4.heap.size, 1, none⟩ = some (.int .i64 0) := (by rw [hb5.cell (by first | omega | (simp; done) | (simp; omega))]; simp [go_sem, *])
        have B5 : Below w.heap.size w w5 := Below.trans (by repeat' (first | (with_reducible exact Below.refl _ _) | (with_reducible assumption) | (with_reducible refine Below.alloc ?_ ?_ _) | (with_reducible refine Below.drew ?_) | (with_reducible refine belowDraws ?_ _) | (with_reducible refine Below.setCell ?_ ?_ _) | omega | (simp; done) | (simp; omega))) (hb5.mono (by first | omega | (simp; done) | (simp; omega)))
        have hz5 := B5.size
        clear q4_00 q4_01 q4_10 q4_11 hl4_0 hl4_1
        clear hb5
        go_wp2_with fail
        refine (I3 _).mono ?_
        rintro e w6 ⟨rfl, hb6⟩
        have hl6_0 : w2.heap.size < w6.heap.size := Nat.lt_of_lt_of_le (by first | omega | (simp; done) | (simp; omega)) hb6.size
        have q6_00 : w6.cell? ⟨w2.heap.size, 0, none⟩ = some (.int .i64 0) := (by rw [hb6.cell (by first | omega | (simp; done) | (simp; omega))]; simp [go_sem, *])
        have q6_01 : w6.cell? ⟨w2.heap.size, 1, none⟩ = some (.int .i64 0) := (by rw [hb6.cell (by first | omega | (simp; done) | (simp; omega))]; simp [go_sem, *])
        have hl6_1 : w3.heap.size < w6.heap.size := Nat.lt_of_lt_of_le (by first | omega | (simp; done) | (simp; omega)) hb6.size
        have q6_10 : w6.cell? ⟨w3.heap.size, 0, none⟩ = some (.int .i64 0) := (by rw [hb6.cell (by first | omega | (simp; done) | (simp; omega))]; simp [go_sem, *])
        have q6_11 : w6.cell? ⟨w3.heap.size, 1, none⟩ = some (.int .i64 0) := (by rw [hb6.cell (by first | omega | (simp; done) | (simp; omega))]; simp [go_sem, *])
        have hl6_2 : w4.heap.size < w6.heap.size := Nat.lt_of_lt_of_le (by first | omega | (simp; done) | (simp; omega)) hb6.size
        have q6_20 : w6.cell? ⟨w4.heap.size, 0, none⟩ = some (.int .i64 0) := (by rw [hb6.cell (by first | omega | (simp; done) | (simp; omega))]; simp [go_sem, *])
        have q6_21 : w6.cell? ⟨w4.heap.size, 1, none⟩ = some (.int .i64 0) := (by rw [hb6.cell (by first | omega | (simp; done) | (simp; omega))]; simp [go_sem, *])
        have hl6_3 : w5.heap.size < w6.heap.size := Nat.lt_of_lt_of_le (by first | omega | (simp; done) | (simp; omega)) hb6.size
        have q6_30 : w6.cell? ⟨w5.heap.size, 0, none⟩ = some (.int .i64 0) := (by rw [hb6.cell (by first | omega | (simp; done) | (simp; omega))]; simp [go_sem, *])
        have q6_31 : w6.cell? ⟨w5.heap.size, 1, none⟩ = some (.int .i64 0) := (by rw [hb6.cell (by first | omega | (simp; done) | (simp; omega))]; simp [go_sem, *])
        have B6 : Below w.heap.size w w6 := Below.trans (by repeat' (first | (with_reducible exact Below.refl _ _) | (with_reducible assumption) | (with_reducible refine Below.alloc ?_ ?_ _) | (with_reducible refine Below.drew ?_) | (with_reducible refine belowDraws ?_ _) | (with_reducible refine Below.setCell ?_ ?_ _) | omega | (simp; done) | (simp; omega))) (hb6.mono (by first | omega | (simp; done) | (simp; omega)))
        have hz6 := B6.size
        clear q5_00 q5_01 q5_10 q5_11 q5_20 q5_21 hl5_0 hl5_1 hl5_2
        clear hb6
        go_wp2_with fail
        refine (S3 _).mono ?_
        rintro e w7 ⟨rfl, hb7⟩
        have hl7_0 : w2.heap.size < w7.heap.size := Nat.lt_of_lt_of_le (by first | omega | (simp; done) | (simp; omega)) hb7.size
        have q7_00 : w7.cell? ⟨w2.heap.size, 0, none⟩ = some (.int .i64 0) := (by rw [hb7.cell (by first | omega | (simp; done) | (simp; omega))]; simp [go_sem, *])
        have q7_01 : w7.cell? ⟨w2.heap.size, 1, none⟩ = some (.int .i64 0) := (by rw [hb7.cell (by first | omega | (simp; done) | (simp; omega))]; simp [go_sem, *])
        have hl7_1 : w3.heap.size < w7.heap.size := Nat.lt_of_lt_of_le (by first | omega | (simp; done) | (simp; omega)) hb7.size
        have q7_10 : w7.cell? ⟨w3.heap.size, 0, none⟩ = some (.int .i64 0) := (by rw [hb7.cell (by first | omega | (simp; done) | (simp; omega))]; simp [go_sem, *])
        have q7_11 : w7.cell? ⟨w3.heap.size, 1, none⟩ = some (.int .i64 0) := (by rw [hb7.cell (by first | omega | (simp; done) | (simp; omega))]; simp [go_sem, *])
        have hl7_2 : w4.heap.size < w7.heap.size := Nat.lt_of_lt_of_le (by first | omega | (simp; done) | (simp; omega)) hb7.size
        have q7_20 : w7.cell? ⟨w4.heap.size, 0, none⟩ = some (.int .i64 0) := (by rw [hb7.cell (by first | omega | (simp; done) | (simp; omega))]; simp [go_sem, *])
        have q7_21 : w7.cell? ⟨w4.heap.size, 1, none⟩ = some (.int .i64 0) := (by rw [hb7.cell (by first | omega | (simp; done) | (simp; omega))]; simp [go_sem, *])
        have hl7_3 : w5.heap.size < w7.heap.size := Nat.lt_of_lt_of_le (by first | omega | (simp; done) | (simp; omega)) hb7.size
        have q7_30 : w7.cell? ⟨w5.heap.size, 0, none⟩ = some (.int .i64 0) := (by rw [hb7.cell (by first | omega | (simp; done) | (simp; omega))]; simp [go_sem, *])
        have q7_31 : w7.cell? ⟨w5.heap.size, 1, none⟩ = some (.int .i64 0) := (by rw [hb7.cell (by first | omega | (simp; done) | (simp; omega))]; simp [go_sem, *])
        have B7 : Below w.heap.size w w7 := Below.trans (by repeat' (first | (with_reducible exact Below.refl _ _) | (with_reducible assumption) | (with_reducible refine Below.alloc ?_ ?_ _) | (with_reducible refine Below.drew ?_) | (with_reducible refine belowDraws ?_ _) | (with_reducible refine Below.setCell ?_ ?_ _) | omega | (simp; done) | (simp; omega))) (hb7.mono (by first | omega | (simp; done) | (simp; omega)))
        have hz7 := B7.size
        clear q6_00 q6_01 q6_10 q6_11 q6_20 q6_21 q6_30 q6_31 hl6_0 hl6_1 hl6_2 hl6_3
        clear hb7
        clear I1 S1 I2 S2 I3 S3
        go_wp2_with fail
        refine (iDecadesOf_ok s _ s1 s2).mono ?_
        rintro e w8 ⟨rfl, hb8⟩
        have hl8_0 : w2.heap.size < w8.heap.size := Nat.lt_of_lt_of_le (by first | omega | (simp; done) | (simp; omega)) hb8.size
        have q8_00 : w8.cell? ⟨w2.heap.size, 0, none⟩ = some (.int .i64 0) := (by rw [hb8.cell (by first | omega | (simp; done) | (simp; omega))]; simp [go_sem, *])
        have q8_01 : w8.cell? ⟨w2.heap.size, 1, none⟩ = some (.int .i64 0) := (by rw [hb8.cell (by first | omega | (simp; done) | (simp; omega))]; simp [go_sem, *])
        have hl8_1 : w3.heap.size < w8.heap.size := Nat.lt_of_lt_of_le (by first | omega | (simp; done) | (simp; omega)) hb8.size
        have q8_10 : w8.cell? ⟨w3.heap.size, 0, none⟩ = some (.int .i64 0) := (by rw [hb8.cell (by first | omega | (simp; done) | (simp; omega))]; simp [go_sem, *])
        have q8_11 : w8.cell? ⟨w3.heap.size, 1, none⟩ = some (.int .i64 0) := (by rw [hb8.cell (by first | omega | (simp; done) | (simp; omega))]; simp [go_sem, *])
        have hl8_2 : w4.heap.size < w8.heap.size := Nat.lt_of_lt_of_le (by first | omega | (simp; done) | (simp; omega)) hb8.size
        have q8_20 : w8.cell? ⟨w4.heap.size, 0, none⟩ = some (.int .i64 0) := (by rw [hb8.cell (by first | omega | (simp; done) | (simp; omega))]; simp [go_sem, *])
        have q8_21 : w8.cell? ⟨w4.heap.size, 1, none⟩ = some (.int .i64 0) := (by rw [hb8.cell (by first | omega | (simp; done) | (simp; omega))]; simp [go_sem, *])
        have hl8_3 : w5.heap.size < w8.heap.size := Nat.lt_of_lt_of_le (by first | omega | (simp; done) | (simp; omega)) hb8.size
        have q8_30 : w8.cell? ⟨w5.heap.size, 0, none⟩ = some (.int .i64 0) := (by rw [hb8.cell (by first | omega | (simp; done) | (simp; omega))]; simp [go_sem, *])
        have q8_31 : w8.cell? ⟨w5.heap.size, 1, none⟩ = some (.int .i64 0) := (by rw [hb8.cell (by first | omega | (simp; done) | (simp; omega))]; simp [go_sem, *])
        have B8 : Below w.heap.size w w8 := Below.trans (by repeat' (first | (with_reducible exact Below.refl _ _) | (with_reducible assumption) | (with_reducible refine Below.alloc ?_ ?_ _) | (with_reducible refine Below.drew ?_) | (with_reducible refine belowDraws ?_ _) | (with_reducible refine Below.setCell ?_ ?_ _) | omega | (simp; done) | (simp; omega))) (hb8.mono (by first | omega | (simp; done) | (simp; omega)))
        have hz8 := B8.size
        clear q7_00 q7_01 q7_10 q7_11 q7_20 q7_21 q7_30 q7_31 hl7_0 hl7_1 hl7_2 hl7_3
        clear hb8
        obtain ⟨dcs, hdcs⟩ : ∃ x, decades s = x := ⟨_, rfl⟩
        have hd1 := decades_bd s
        rw [hdcs] at hd1 ⊢
        have nl_0 := hl8_0
        have nl_1 := hl8_1
        have nl_2 := hl8_2
        have nl_3 := hl8_3
        go_wp2_with fail
        refine (roll_any A n c l 601 _ hl hn h8 ?_).mono ?_
        · first | exact hs | exact (hs.over (by repeat' (first | (with_reducible exact Below.refl _ _) | (with_reducible assumption) | (with_reducible refine Below.alloc ?_ ?_ _) | (with_reducible refine Below.drew ?_) | (with_reducible refine belowDraws ?_ _) | (with_reducible refine Below.setCell ?_ ?_ _) | omega | (simp; done) | (simp; omega)))).wider (by first | omega | (simp; done) | (simp; omega))
        rintro e w9 ⟨bd, rfl, hbd, SD, hb9⟩
        have hl9_0 : w2.heap.size < w9.heap.size := Nat.lt_of_lt_of_le (by first | omega | (simp; done) | (simp; omega)) hb9.size
        have q9_00 : w9.cell? ⟨w2.heap.size, 0, none⟩ = some (.int .i64 0) := (by rw [hb9.cell (by first | omega | (simp; done) | (simp; omega))]; simp [go_sem, *])
        have q9_01 : w9.cell? ⟨w2.heap.size, 1, none⟩ = some (.int .i64 0) := (by rw [hb9.cell (by first | omega | (simp; done) | (simp; omega))]; simp [go_sem, *])
        have hl9_1 : w3.heap.size < w9.heap.size := Nat.lt_of_lt_of_le (by first | omega | (simp; done) | (simp; omega)) hb9.size
        have q9_10 : w9.cell? ⟨w3.heap.size, 0, none⟩ = some (.int .i64 0) := (by rw [hb9.cell (by first | omega | (simp; done) | (simp; omega))]; simp [go_sem, *])
        have q9_11 : w9.cell? ⟨w3.heap.size, 1, none⟩ = some (.int .i64 0) := (by rw [hb9.cell (by first | omega | (simp; done) | (simp; omega))]; simp [go_sem, *])
        have hl9_2 : w4.heap.size < w9.heap.size := Nat.lt_of_lt_of_le (by first | omega | (simp; done) | (simp; omega)) hb9.size
        have q9_20 : w9.cell? ⟨w4.heap.size, 0, none⟩ = some (.int .i64 0) := (by rw [hb9.cell (by first | omega | (simp; done) | (simp; omega))]; simp [go_sem, *])
        have q9_21 : w9.cell? ⟨w4.heap.size, 1, none⟩ = some (.int .i64 0) := (by rw [hb9.cell (by first | omega | (simp; done) | (simp; omega))]; simp [go_sem, *])
        have hl9_3 : w5.heap.size < w9.heap.size := Nat.lt_of_lt_of_le (by first | omega | (simp; done) | (simp; omega)) hb9.size
        have q9_30 : w9.cell? ⟨w5.heap.size, 0, none⟩ = some (.int .i64 0) := (by rw [hb9.cell (by first | omega | (simp; done) | (simp; omega))]; simp [go_sem, *])
        have q9_31 : w9.cell? ⟨w5.heap.size, 1, none⟩ = some (.int .i64 0) := (by rw [hb9.cell (by first | omega | (simp; done) | (simp; omega))]; simp [go_sem, *])
        have B9 : Below w.heap.size w w9 := Below.trans (by repeat' (first | (with_reducible exact Below.refl _ _) | (with_reducible assumption) | (with_reducible refine Below.alloc ?_ ?_ _) | (with_reducible refine Below.drew ?_) | (with_reducible refine belowDraws ?_ _) | (with_reducible refine Below.setCell ?_ ?_ _) | omega | (simp; done) | (simp; omega))) (hb9.mono (by first | omega | (simp; done) | (simp; omega)))
        have hz9 := B9.size
        clear q8_00 q8_01 q8_10 q8_11 q8_20 q8_21 q8_30 q8_31 hl8_0 hl8_1 hl8_2 hl8_3
        clear hb9
        have nd_0 : w2.heap.size ≠ bd := by first | omega | (simp at hbd; omega)
        have nd_1 : w3.heap.size ≠ bd := by first | omega | (simp at hbd; omega)
        have nd_2 : w4.heap.size ≠ bd := by first | omega | (simp at hbd; omega)
        have nd_3 : w5.heap.size ≠ bd := by first | omega | (simp at hbd; omega)
        clear nl_0 nl_1 nl_2 nl_3
        have hbw : w.heap.size ≤ bd := by first | omega | (simp at hbd; omega)
        clear hbd
        have S9 := SD
        have y9 := S9.inside
        clear SD
        go_wp2_with fail
        refine (below_any 900 bd A n c l _ hl hn h8 (by repeat' (first | (with_reducible assumption) | (with_reducible refine Dice.alloc ?_ _) | (with_reducible refine Dice.drew ?_) | (with_reducible refine Dice.drewN ?_ _) | (with_reducible refine Dice.set ?_ ?_ _) | (first | omega | (simp; done) | (simp; omega)))) (by omega)).mono ?_
        rintro e w10 ⟨v, rfl, lo10, hi10, S10, g10⟩
        have hl10_0 : w2.heap.size < w10.heap.size := Nat.lt_of_lt_of_le (by first | omega | (simp; done) | (simp; omega)) g10.size
        have q10_00 : w10.cell? ⟨w2.heap.size, 0, none⟩ = some (.int .i64 0) := (by rw [gCell g10 (by first | omega | (simp; done) | (simp; omega)) (by first | omega | (simp; done) | (simp; omega))]; simp [go_sem, *])
        have q10_01 : w10.cell? ⟨w2.heap.size, 1, none⟩ = some (.int .i64 0) := (by rw [gCell g10 (by first | omega | (simp; done) | (simp; omega)) (by first | omega | (simp; done) | (simp; omega))]; simp [go_sem, *])
        have hl10_1 : w3.heap.size < w10.heap.size := Nat.lt_of_lt_of_le (by first | omega | (simp; done) | (simp; omega)) g10.size
        have q10_10 : w10.cell? ⟨w3.heap.size, 0, none⟩ = some (.int .i64 0) := (by rw [gCell g10 (by first | omega | (simp; done) | (simp; omega)) (by first | omega | (simp; done) | (simp; omega))]; simp [go_sem, *])
        have q10_11 : w10.cell? ⟨w3.heap.size, 1, none⟩ = some (.int .i64 0) := (by rw [gCell g10 (by first | omega | (simp; done) | (simp; omega)) (by first | omega | (simp; done) | (simp; omega))]; simp [go_sem, *])
        have hl10_2 : w4.heap.size < w10.heap.size := Nat.lt_of_lt_of_le (by first | omega | (simp; done) | (simp; omega)) g10.size
        have q10_20 : w10.cell? ⟨w4.heap.size, 0, none⟩ = some (.int .i64 0) := (by rw [gCell g10 (by first | omega | (simp; done) | (simp; omega)) (by first | omega | (simp; done) | (simp; omega))]; simp [go_sem, *])
        have q10_21 : w10.cell? ⟨w4.heap.size, 1, none⟩ = some (.int .i64 0) := (by rw [gCell g10 (by first | omega | (simp; done) | (simp; omega)) (by first | omega | (simp; done) | (simp; omega))]; simp [go_sem, *])
        have hl10_3 : w5.heap.size < w10.heap.size := Nat.lt_of_lt_of_le (by first | omega | (simp; done) | (simp; omega)) g10.size
        have q10_30 : w10.cell? ⟨w5.heap.size, 0, none⟩ = some (.int .i64 0) := (by rw [gCell g10 (by first | omega | (simp; done) | (simp; omega)) (by first | omega | (simp; done) | (simp; omega))]; simp [go_sem, *])
        have q10_31 : w10.cell? ⟨w5.heap.size, 1, none⟩ = some (.int .i64 0) := (by rw [gCell g10 (by first | omega | (simp; done) | (simp; omega)) (by first | omega | (simp; done) | (simp; omega))]; simp [go_sem, *])
        have B10 : Below w.heap.size w w10 := Below.trans (by repeat' (first | (with_reducible exact Below.refl _ _) | (with_reducible assumption) | (with_reducible refine Below.alloc ?_ ?_ _) | (with_reducible refine Below.drew ?_) | (with_reducible refine belowDraws ?_ _) | (with_reducible refine Below.setCell ?_ ?_ _) | omega | (simp; done) | (simp; omega))) (gBelow g10 hbw (by first | omega | (simp; done) | (simp; omega)))
        have hz10 := B10.size
        have y10 := S10.inside
        clear q9_00 q9_01 q9_10 q9_11 q9_20 q9_21 q9_30 q9_31 hl9_0 hl9_1 hl9_2 hl9_3
        clear g10
        go_wp2_with fail
        refine (below_any dcs bd A n c l _ hl hn h8 (by repeat' (first | (with_reducible assumption) | (with_reducible refine Dice.alloc ?_ _) | (with_reducible refine Dice.drew ?_) | (with_reducible refine Dice.drewN ?_ _) | (with_reducible refine Dice.set ?_ ?_ _) | (first | omega | (simp; done) | (simp; omega)))) (by omega)).mono ?_
        rintro e w11 ⟨t, rfl, lo11, hi11, S11, g11⟩
        have hl11_0 : w2.heap.size < w11.heap.size := Nat.lt_of_lt_of_le (by first | omega | (simp; done) | (simp; omega)) g11.size
        have q11_00 : w11.cell? ⟨w2.heap.size, 0, none⟩ = some (.int .i64 0) := (by rw [gCell g11 (by first | omega | (simp; done) | (simp; omega)) (by first | omega | (simp; done) | (simp; omega))]; simp [go_sem, *])
        have q11_01 : w11.cell? ⟨w2.heap.size, 1, none⟩ = some (.int .i64 0) := (by rw [gCell g11 (by first | omega | (simp; done) | (simp; omega)) (by first | omega | (simp; done) | (simp; omega))]; simp [go_sem, *])
        have hl11_1 : w3.heap.size < w11.heap.size := Nat.lt_of_lt_of_le (by first | omega | (simp; done) | (simp; omega)) g11.size
        have q11_10 : w11.cell? ⟨w3.heap.size, 0, none⟩ = some (.int .i64 0) := (by rw [gCell g11 (by first | omega | (simp; done) | (simp; omega)) (by first | omega | (simp; done) | (simp; omega))]; simp [go_sem, *])
        have q11_11 : w11.cell? ⟨w3.heap.size, 1, none⟩ = some (.int .i64 0) := (by rw [gCell g11 (by first | omega | (simp; done) | (simp; omega)) (by first | omega | (simp; done) | (simp; omega))]; simp [go_sem, *])
        have hl11_2 : w4.heap.size < w11.heap.size := Nat.lt_of_lt_of_le (by first | omega | (simp; done) | (simp; omega)) g11.size
        have q11_20 : w11.cell? ⟨w4.heap.size, 0, none⟩ = some (.int .i64 0) := (by rw [gCell g11 (by first | omega | (simp; done) | (simp; omega)) (by first | omega | (simp; done) | (simp; omega))]; simp [go_sem, *])
        have q11_21 : w11.cell? ⟨w4.heap.size, 1, none⟩ = some (.int .i64 0) := (by rw [gCell g11 (by first | omega | (simp; done) | (simp; omega)) (by first | omega | (simp; done) | (simp; omega))]; simp [go_sem, *])
        have hl11_3 : w5.heap.size < w11.heap.size := Nat.lt_of_lt_of_le (by first | omega | (simp; done) | (simp; omega)) g11.size
        have q11_30 : w11.cell? ⟨w5.heap.size, 0, none⟩ = some (.int .i64 0) := (by rw [gCell g11 (by first | omega | (simp; done) | (simp; omega)) (by first | omega | (simp; done) | (simp; omega))]; simp [go_sem, *])
        have q11_31 : w11.cell? ⟨w5.heap.size, 1, none⟩ = some (.int .i64 0) := (by rw [gCell g11 (by first | omega | (simp; done) | (simp; omega)) (by first | omega | (simp; done) | (simp; omega))]; simp [go_sem, *])
        have B11 : Below w.heap.size w w11 := Below.trans (by repeat' (first | (with_reducible exact Below.refl _ _) | (with_reducible assumption) | (with_reducible refine Below.alloc ?_ ?_ _) | (with_reducible refine Below.drew ?_) | (with_reducible refine belowDraws ?_ _) | (with_reducible refine Below.setCell ?_ ?_ _) | omega | (simp; done) | (simp; omega))) (gBelow g11 hbw (by first | omega | (simp; done) | (simp; omega)))
        have hz11 := B11.size
        have y11 := S11.inside
        clear q10_00 q10_01 q10_10 q10_11 q10_20 q10_21 q10_30 q10_31 hl10_0 hl10_1 hl10_2 hl10_3
        clear g11
        have hD : Dig (1000 + 10 * v) := by unfold Dig; omega
        have hck := ckPlace_fits (s := s) (len := len) hD ⟨s1, s2⟩ lo11 (by omega) ⟨l1, l2⟩
        have hfB : figB (1000 + 10 * v) t = true := figB_iff.2 ⟨hD, by omega, by omega⟩
        have HO := Lib.hid (fun (at_ : Int) => own_reads (s := s) (len := len) (pt := at_) (eye := eye) (v := v) (t := t) lo10 hi10 lo11 (by omega))
        have HM := Lib.hid (may_own (s := s) (len := len) (eye := eye) (t := t) hD l1 l2 y1)
        have PL := fun W => iPlaceOf_fit s (1000 + 10 * v) t len W hD ⟨by omega, by omega⟩ l1 l2 hck.2
        have bp := pl_bd (s := s) (t := t) hD l1 l2
        have MB := fun (at_ : Int) (h : 0 ≤ at_ ∧ at_ ≤ len) W => iMayBeAt_any s (1000 + 10 * v) t len at_ eye W
        have HR := Lib.hid (fun (at_ : Int) (h : 0 ≤ at_ ∧ at_ ≤ len) => rMay_fit (pt := at_) (eye := eye) hfB (ptB_iff.2 ⟨⟨s1, s2⟩, ⟨l1, l2⟩, h, y1, y2⟩) hck.1)
        have HC := Lib.hid (fun (at_ : Int) (h : 0 ≤ at_ ∧ at_ ≤ len) => rCountR_in (eye := eye) (ptB_iff.2 ⟨⟨s1, s2⟩, ⟨l1, l2⟩, h, y1, y2⟩))
        clear MB hfB hck hD hdcs
        obtain ⟨pl, hpl⟩ : ∃ x, plL s (1000 + 10 * v) t len = x := ⟨_, rfl⟩
        obtain ⟨pu, hpu⟩ : ∃ x, plU s (1000 + 10 * v) t len = x := ⟨_, rfl⟩
        rw [hpl, hpu] at PL bp
        rw [hpl] at HM
        clear hpl hpu
        go_wp2_with fail
        refine (PL _).mono ?_
        rintro e w12 ⟨rfl, hb12⟩
        have hl12_0 : w2.heap.size < w12.heap.size := Nat.lt_of_lt_of_le (by first | omega | (simp; done) | (simp; omega)) hb12.size
        have q12_00 : w12.cell? ⟨w2.heap.size, 0, none⟩ = some (.int .i64 0) := (by rw [hb12.cell (by first | omega | (simp; done) | (simp; omega))]; simp [go_sem, *])
        have q12_01 : w12.cell? ⟨w2.heap.size, 1, none⟩ = some (.int .i64 0) := (by rw [hb12.cell (by first | omega | (simp; done) | (simp; omega))]; simp [go_sem, *])
        have hl12_1 : w3.heap.size < w12.heap.size := Nat.lt_of_lt_of_le (by first | omega | (simp; done) | (simp; omega)) hb12.size
        have q12_10 : w12.cell? ⟨w3.heap.size, 0, none⟩ = some (.int .i64 0) := (by rw [hb12.cell (by first | omega | (simp; done) | (simp; omega))]; simp [go_sem, *])
        have q12_11 : w12.cell? ⟨w3.heap.size, 1, none⟩ = some (.int .i64 0) := (by rw [hb12.cell (by first | omega | (simp; done) | (simp; omega))]; simp [go_sem, *])
        have hl12_2 : w4.heap.size < w12.heap.size := Nat.lt_of_lt_of_le (by first | omega | (simp; done) | (simp; omega)) hb12.size
        have q12_20 : w12.cell? ⟨w4.heap.size, 0, none⟩ = some (.int .i64 0) := (by rw [hb12.cell (by first | omega | (simp; done) | (simp; omega))]; simp [go_sem, *])
        have q12_21 : w12.cell? ⟨w4.heap.size, 1, none⟩ = some (.int .i64 0) := (by rw [hb12.cell (by first | omega | (simp; done) | (simp; omega))]; simp [go_sem, *])
        have hl12_3 : w5.heap.size < w12.heap.size := Nat.lt_of_lt_of_le (by first | omega | (simp; done) | (simp; omega)) hb12.size
        have q12_30 : w12.cell? ⟨w5.heap.size, 0, none⟩ = some (.int .i64 0) := (by rw [hb12.cell (by first | omega | (simp; done) | (simp; omega))]; simp [go_sem, *])
        have q12_31 : w12.cell? ⟨w5.heap.size, 1, none⟩ = some (.int .i64 0) := (by rw [hb12.cell (by first | omega | (simp; done) | (simp; omega))]; simp [go_sem, *])
        have hl12_4 : w11.heap.size < w12.heap.size := Nat.lt_of_lt_of_le (by first | omega | (simp; done) | (simp; omega)) hb12.size
        have q12_40 : w12.cell? ⟨w11.heap.size, 0, none⟩ = some (.int .i64 (1000 + 10 * v)) := (by rw [hb12.cell (by first | omega | (simp; done) | (simp; omega))]; simp [go_sem, *])
        have q12_41 : w12.cell? ⟨w11.heap.size, 1, none⟩ = some (.int .i64 t) := (by rw [hb12.cell (by first | omega | (simp; done) | (simp; omega))]; simp [go_sem, *])
        have B12 : Below w.heap.size w w12 := Below.trans (by repeat' (first | (with_reducible exact Below.refl _ _) | (with_reducible assumption) | (with_reducible refine Below.alloc ?_ ?_ _) | (with_reducible refine Below.drew ?_) | (with_reducible refine belowDraws ?_ _) | (with_reducible refine Below.setCell ?_ ?_ _) | omega | (simp; done) | (simp; omega))) (hb12.mono (by first | omega | (simp; done) | (simp; omega)))
        have hz12 := B12.size
        have S12 : Dice w12 bd A n c l := Dice.over (by repeat' (first | (with_reducible assumption) | (with_reducible refine Dice.alloc ?_ _) | (with_reducible refine Dice.drew ?_) | (with_reducible refine Dice.drewN ?_ _) | (with_reducible refine Dice.set ?_ ?_ _) | (first | omega | (simp; done) | (simp; omega)))) hb12
        have y12 := S12.inside
        clear q11_00 q11_01 q11_10 q11_11 q11_20 q11_21 q11_30 q11_31 hl11_0 hl11_1 hl11_2 hl11_3
        clear hb12
        clear PL
        rcases (show pl < 0 ∨ pl = 0 ∨ (0 < pl ∧ pl < len) ∨ pl = len ∨ len < pl by omega) with hc | rfl | ⟨hc, hc2⟩ | rfl | hc
        · have ha : (0 : Int) ≤ 0 ∧ 0 ≤ len := by omega
          have MB := fun W => iMayBeAt_any s (1000 + 10 * v) t len (0) eye W
          have CB := fun W => iCountReadings_any s len (0) eye W
          have ho := HO.out (0)
          rw [HR.out (0) ha] at MB
          rw [HC.out (0) ha] at CB
          obtain ⟨ow, how⟩ : ∃ x : Nat, (reads s len (0) eye).length = x := ⟨_, rfl⟩
          have hw := reads_le s len (0) eye
          rw [how] at CB ho hw
          clear HO HR HC HM how ha
          have hne : ¬ (0) = pl := by omega
          obtain ⟨ok, hok⟩ : ∃ x, mayB s (1000 + 10 * v) t len (0) eye = x := ⟨_, rfl⟩
          rw [hok] at MB ho
          clear hok
          simp only at MB
          cases ok with
          | true =>
            have ho1 := ho rfl
            clear ho
            go_wp2_with fail
            refine (MB _).mono ?_
            rintro e w13 ⟨rfl, hb13⟩
            have hl13_0 : w2.heap.size < w13.heap.size := Nat.lt_of_lt_of_le (by first | omega | (simp; done) | (simp; omega)) hb13.size
            have q13_00 : w13.cell? ⟨w2.heap.size, 0, none⟩ = some (.int .i64 0) := (by rw [hb13.cell (by first | omega | (simp; done) | (simp; omega))]; simp [go_sem, *])
            have q13_01 : w13.cell? ⟨w2.heap.size, 1, none⟩ = some (.int .i64 0) := (by rw [hb13.cell (by first | omega | (simp; done) | (simp; omega))]; simp [go_sem, *])
            have hl13_1 : w3.heap.size < w13.heap.size := Nat.lt_of_lt_of_le (by first | omega | (simp; done) | (simp; omega)) hb13.size
            have q13_10 : w13.cell? ⟨w3.heap.size, 0, none⟩ = some (.int .i64 0) := (by rw [hb13.cell (by first | omega | (simp; done) | (simp; omega))]; simp [go_sem, *])
            have q13_11 : w13.cell? ⟨w3.heap.size, 1, none⟩ = some (.int .i64 0) := (by rw [hb13.cell (by first | omega | (simp; done) | (simp; omega))]; simp [go_sem, *])
            have hl13_2 : w4.heap.size < w13.heap.size := Nat.lt_of_lt_of_le (by first | omega | (simp; done) | (simp; omega)) hb13.size
            have q13_20 : w13.cell? ⟨w4.heap.size, 0, none⟩ = some (.int .i64 0) := (by rw [hb13.cell (by first | omega | (simp; done) | (simp; omega))]; simp [go_sem, *])
            have q13_21 : w13.cell? ⟨w4.heap.size, 1, none⟩ = some (.int .i64 0) := (by rw [hb13.cell (by first | omega | (simp; done) | (simp; omega))]; simp [go_sem, *])
            have hl13_3 : w5.heap.size < w13.heap.size := Nat.lt_of_lt_of_le (by first | omega | (simp; done) | (simp; omega)) hb13.size
            have q13_30 : w13.cell? ⟨w5.heap.size, 0, none⟩ = some (.int .i64 0) := (by rw [hb13.cell (by first | omega | (simp; done) | (simp; omega))]; simp [go_sem, *])
            have q13_31 : w13.cell? ⟨w5.heap.size, 1, none⟩ = some (.int .i64 0) := (by rw [hb13.cell (by first | omega | (simp; done) | (simp; omega))]; simp [go_sem, *])
            have hl13_4 : w11.heap.size < w13.heap.size := Nat.lt_of_lt_of_le (by first | omega | (simp; done) | (simp; omega)) hb13.size
            have q13_40 : w13.cell? ⟨w11.heap.size, 0, none⟩ = some (.int .i64 (1000 + 10 * v)) := (by rw [hb13.cell (by first | omega | (simp; done) | (simp; omega))]; simp [go_sem, *])
            have q13_41 : w13.cell? ⟨w11.heap.size, 1, none⟩ = some (.int .i64 t) := (by rw [hb13.cell (by first | omega | (simp; done) | (simp; omega))]; simp [go_sem, *])
            have hl13_5 : w12.heap.size < w13.heap.size := Nat.lt_of_lt_of_le (by first | omega | (simp; done) | (simp; omega)) hb13.size
            have q13_50 : w13.cell? ⟨w12.heap.size, 0, none⟩ = some (.int .i64 pl) := (by rw [hb13.cell (by first | omega | (simp; done) | (simp; omega))]; simp [go_sem, *])
            have q13_51 : w13.cell? ⟨w12.heap.size, 1, none⟩ = some (.int .i64 pu) := (by rw [hb13.cell (by first | omega | (simp; done) | (simp; omega))]; simp [go_sem, *])
            have B13 : Below w.heap.size w w13 := Below.trans (by repeat' (first | (with_reducible exact Below.refl _ _) | (with_reducible assumption) | (with_reducible refine Below.alloc ?_ ?_ _) | (with_reducible refine Below.drew ?_) | (with_reducible refine belowDraws ?_ _) | (with_reducible refine Below.setCell ?_ ?_ _) | omega | (simp; done) | (simp; omega))) (hb13.mono (by first | omega | (simp; done) | (simp; omega)))
            have hz13 := B13.size
            have S13 : Dice w13 bd A n c l := Dice.over (by repeat' (first | (with_reducible assumption) | (with_reducible refine Dice.alloc ?_ _) | (with_reducible refine Dice.drew ?_) | (with_reducible refine Dice.drewN ?_ _) | (with_reducible refine Dice.set ?_ ?_ _) | (first | omega | (simp; done) | (simp; omega)))) hb13
            have y13 := S13.inside
            clear q12_00 q12_01 q12_10 q12_11 q12_20 q12_21 q12_30 q12_31 q12_40 q12_41 hl12_0 hl12_1 hl12_2 hl12_3 hl12_4
            clear hb13
            go_wp2_with fail
            refine (CB _).mono ?_
            rintro e w14 ⟨rfl, hb14⟩
            have hl14_0 : w2.heap.size < w14.heap.size := Nat.lt_of_lt_of_le (by first | omega | (simp; done) | (simp; omega)) hb14.size
            have q14_00 : w14.cell? ⟨w2.heap.size, 0, none⟩ = some (.int .i64 0) := (by rw [hb14.cell (by first | omega | (simp; done) | (simp; omega))]; simp [go_sem, *])
            have q14_01 : w14.cell? ⟨w2.heap.size, 1, none⟩ = some (.int .i64 0) := (by rw [hb14.cell (by first | omega | (simp; done) | (simp; omega))]; simp [go_sem, *])
            have hl14_1 : w3.heap.size < w14.heap.size := Nat.lt_of_lt_of_le (by first | omega | (simp; done) | (simp; omega)) hb14.size
            have q14_10 : w14.cell? ⟨w3.heap.size, 0, none⟩ = some (.int .i64 0) := (by rw [hb14.cell (by first | omega | (simp; done) | (simp; omega))]; simp [go_sem, *])
            have q14_11 : w14.cell? ⟨w3.heap.size, 1, none⟩ = some (.int .i64 0) := (by rw [hb14.cell (by first | omega | (simp; done) | (simp; omega))]; simp [go_sem, *])
            have hl14_2 : w4.heap.size < w14.heap.size := Nat.lt_of_lt_of_le (by first | omega | (simp; done) | (simp; omega)) hb14.size
            have q14_20 : w14.cell? ⟨w4.heap.size, 0, none⟩ = some (.int .i64 0) := (by rw [hb14.cell (by first | omega | (simp; done) | (simp; omega))]; simp [go_sem, *])
            have q14_21 : w14.cell? ⟨w4.heap.size, 1, none⟩ = some (.int .i64 0) := (by rw [hb14.cell (by first | omega | (simp; done) | (simp; omega))]; simp [go_sem, *])
            have hl14_3 : w5.heap.size < w14.heap.size := Nat.lt_of_lt_of_le (by first | omega | (simp; done) | (simp; omega)) hb14.size
            have q14_30 : w14.cell? ⟨w5.heap.size, 0, none⟩ = some (.int .i64 0) := (by rw [hb14.cell (by first | omega | (simp; done) | (simp; omega))]; simp [go_sem, *])
            have q14_31 : w14.cell? ⟨w5.heap.size, 1, none⟩ = some (.int .i64 0) := (by rw [hb14.cell (by first | omega | (simp; done) | (simp; omega))]; simp [go_sem, *])
            have hl14_4 : w11.heap.size < w14.heap.size := Nat.lt_of_lt_of_le (by first | omega | (simp; done) | (simp; omega)) hb14.size
            have q14_40 : w14.cell? ⟨w11.heap.size, 0, none⟩ = some (.int .i64 (1000 + 10 * v)) := (by rw [hb14.cell (by first | omega | (simp; done) | (simp; omega))]; simp [go_sem, *])
            have q14_41 : w14.cell? ⟨w11.heap.size, 1, none⟩ = some (.int .i64 t) := (by rw [hb14.cell (by first | omega | (simp; done) | (simp; omega))]; simp [go_sem, *])
            have hl14_5 : w12.heap.size < w14.heap.size := Nat.lt_of_lt_of_le (by first | omega | (simp; done) | (simp; omega)) hb14.size
            have q14_50 : w14.cell? ⟨w12.heap.size, 0, none⟩ = some (.int .i64 pl) := (by rw [hb14.cell (by first | omega | (simp; done) | (simp; omega))]; simp [go_sem, *])
            have q14_51 : w14.cell? ⟨w12.heap.size, 1, none⟩ = some (.int .i64 pu) := (by rw [hb14.cell (by first | omega | (simp; done) | (simp; omega))]; simp [go_sem, *])
            have B14 : Below w.heap.size w w14 := Below.trans (by repeat' (first | (with_reducible exact Below.refl _ _) | (with_reducible assumption) | (with_reducible refine Below.alloc ?_ ?_ _) | (with_reducible refine Below.drew ?_) | (with_reducible refine belowDraws ?_ _) | (with_reducible refine Below.setCell ?_ ?_ _) | omega | (simp; done) | (simp; omega))) (hb14.mono (by first | omega | (simp; done) | (simp; omega)))
            have hz14 := B14.size
            have S14 : Dice w14 bd A n c l := Dice.over (by repeat' (first | (with_reducible assumption) | (with_reducible refine Dice.alloc ?_ _) | (with_reducible refine Dice.drew ?_) | (with_reducible refine Dice.drewN ?_ _) | (with_reducible refine Dice.set ?_ ?_ _) | (first | omega | (simp; done) | (simp; omega)))) hb14
            have y14 := S14.inside
            clear q13_00 q13_01 q13_10 q13_11 q13_20 q13_21 q13_30 q13_31 q13_40 q13_41 q13_50 q13_51 hl13_0 hl13_1 hl13_2 hl13_3 hl13_4 hl13_5
            clear hb14
            clear MB CB
            go_wp2_with fail
            all_goals go_ret
            all_goals exact ⟨endBool (by simp_all), by repeat' (first | (with_reducible exact Below.refl _ _) | (with_reducible assumption) | (with_reducible refine Below.alloc ?_ ?_ _) | (with_reducible refine Below.drew ?_) | (with_reducible refine belowDraws ?_ _) | (with_reducible refine Below.setCell ?_ ?_ _) | omega | (simp; done) | (simp; omega))⟩
          | false =>
            clear ho
            go_wp2_with fail
            refine (MB _).mono ?_
            rintro e w13 ⟨rfl, hb13⟩
            have hl13_0 : w2.heap.size < w13.heap.size := Nat.lt_of_lt_of_le (by first | omega | (simp; done) | (simp; omega)) hb13.size
            have q13_00 : w13.cell? ⟨w2.heap.size, 0, none⟩ = some (.int .i64 0) := (by rw [hb13.cell (by first | omega | (simp; done) | (simp; omega))]; simp [go_sem, *])
            have q13_01 : w13.cell? ⟨w2.heap.size, 1, none⟩ = some (.int .i64 0) := (by rw [hb13.cell (by first | omega | (simp; done) | (simp; omega))]; simp [go_sem, *])
            have hl13_1 : w3.heap.size < w13.heap.size := Nat.lt_of_lt_of_le (by first | omega | (simp; done) | (simp; omega)) hb13.size
            have q13_10 : w13.cell? ⟨w3.heap.size, 0, none⟩ = some (.int .i64 0) := (by rw [hb13.cell (by first | omega | (simp; done) | (simp; omega))]; simp [go_sem, *])
            have q13_11 : w13.cell? ⟨w3.heap.size, 1, none⟩ = some (.int .i64 0) := (by rw [hb13.cell (by first | omega | (simp; done) | (simp; omega))]; simp [go_sem, *])
            have hl13_2 : w4.heap.size < w13.heap.size := Nat.lt_of_lt_of_le (by first | omega | (simp; done) | (simp; omega)) hb13.size
            have q13_20 : w13.cell? ⟨w4.heap.size, 0, none⟩ = some (.int .i64 0) := (by rw [hb13.cell (by first | omega | (simp; done) | (simp; omega))]; simp [go_sem, *])
            have q13_21 : w13.cell? ⟨w4.heap.size, 1, none⟩ = some (.int .i64 0) := (by rw [hb13.cell (by first | omega | (simp; done) | (simp; omega))]; simp [go_sem, *])
            have hl13_3 : w5.heap.size < w13.heap.size := Nat.lt_of_lt_of_le (by first | omega | (simp; done) | (simp; omega)) hb13.size
            have q13_30 : w13.cell? ⟨w5.heap.size, 0, none⟩ = some (.int .i64 0) := (by rw [hb13.cell (by first | omega | (simp; done) | (simp; omega))]; simp [go_sem, *])
            have q13_31 : w13.cell? ⟨w5.heap.size, 1, none⟩ = some (.int .i64 0) := (by rw [hb13.cell (by first | omega | (simp; done) | (simp; omega))]; simp [go_sem, *])
            have hl13_4 : w11.heap.size < w13.heap.size := Nat.lt_of_lt_of_le (by first | omega | (simp; done) | (simp; omega)) hb13.size
            have q13_40 : w13.cell? ⟨w11.heap.size, 0, none⟩ = some (.int .i64 (1000 + 10 * v)) := (by rw [hb13.cell (by first | omega | (simp; done) | (simp; omega))]; simp [go_sem, *])
            have q13_41 : w13.cell? ⟨w11.heap.size, 1, none⟩ = some (.int .i64 t) := (by rw [hb13.cell (by first | omega | (simp; done) | (simp; omega))]; simp [go_sem, *])
            have hl13_5 : w12.heap.size < w13.heap.size := Nat.lt_of_lt_of_le (by first | omega | (simp; done) | (simp; omega)) hb13.size
            have q13_50 : w13.cell? ⟨w12.heap.size, 0, none⟩ = some (.int .i64 pl) := (by rw [hb13.cell (by first | omega | (simp; done) | (simp; omega))]; simp [go_sem, *])
            have q13_51 : w13.cell? ⟨w12.heap.size, 1, none⟩ = some (.int .i64 pu) := (by rw [hb13.cell (by first | omega | (simp; done) | (simp; omega))]; simp [go_sem, *])
            have B13 : Below w.heap.size w w13 := Below.trans (by repeat' (first | (with_reducible exact Below.refl _ _) | (with_reducible assumption) | (with_reducible refine Below.alloc ?_ ?_ _) | (with_reducible refine Below.drew ?_) | (with_reducible refine belowDraws ?_ _) | (with_reducible refine Below.setCell ?_ ?_ _) | omega | (simp; done) | (simp; omega))) (hb13.mono (by first | omega | (simp; done) | (simp; omega)))
            have hz13 := B13.size
            have S13 : Dice w13 bd A n c l := Dice.over (by repeat' (first | (with_reducible assumption) | (with_reducible refine Dice.alloc ?_ _) | (with_reducible refine Dice.drew ?_) | (with_reducible refine Dice.drewN ?_ _) | (with_reducible refine Dice.set ?_ ?_ _) | (first | omega | (simp; done) | (simp; omega)))) hb13
            have y13 := S13.inside
            clear q12_00 q12_01 q12_10 q12_11 q12_20 q12_21 q12_30 q12_31 q12_40 q12_41 hl12_0 hl12_1 hl12_2 hl12_3 hl12_4
            clear hb13
            go_wp2_with fail
            refine (CB _).mono ?_
            rintro e w14 ⟨rfl, hb14⟩
            have hl14_0 : w2.heap.size < w14.heap.size := Nat.lt_of_lt_of_le (by first | omega | (simp; done) | (simp; omega)) hb14.size
            have q14_00 : w14.cell? ⟨w2.heap.size, 0, none⟩ = some (.int .i64 0) := (by rw [hb14.cell (by first | omega | (simp; done) | (simp; omega))]; simp [go_sem, *])
            have q14_01 : w14.cell? ⟨w2.heap.size, 1, none⟩ = some (.int .i64 0) := (by rw [hb14.cell (by first | omega | (simp; done) | (simp; omega))]; simp [go_sem, *])
            have hl14_1 : w3.heap.size < w14.heap.size := Nat.lt_of_lt_of_le (by first | omega | (simp; done) | (simp; omega)) hb14.size
            have q14_10 : w14.cell? ⟨w3.heap.size, 0, none⟩ = some (.int .i64 0) := (by rw [hb14.cell (by first | omega | (simp; done) | (simp; omega))]; simp [go_sem, *])
            have q14_11 : w14.cell? ⟨w3.heap.size, 1, none⟩ = some (.int .i64 0) := (by rw [hb14.cell (by first | omega | (simp; done) | (simp; omega))]; simp [go_sem, *])
            have hl14_2 : w4.heap.size < w14.heap.size := Nat.lt_of_lt_of_le (by first | omega | (simp; done) | (simp; omega)) hb14.size
            have q14_20 : w14.cell? ⟨w4.heap.size, 0, none⟩ = some (.int .i64 0) := (by rw [hb14.cell (by first | omega | (simp; done) | (simp; omega))]; simp [go_sem, *])
            have q14_21 : w14.cell? ⟨w4.heap.size, 1, none⟩ = some (.int .i64 0) := (by rw [hb14.cell (by first | omega | (simp; done) | (simp; omega))]; simp [go_sem, *])
            have hl14_3 : w5.heap.size < w14.heap.size := Nat.lt_of_lt_of_le (by first | omega | (simp; done) | (simp; omega)) hb14.size
            have q14_30 : w14.cell? ⟨w5.heap.size, 0, none⟩ = some (.int .i64 0) := (by rw [hb14.cell (by first | omega | (simp; done) | (simp; omega))]; simp [go_sem, *])
            have q14_31 : w14.cell? ⟨w5.heap.size, 1, none⟩ = some (.int .i64 0) := (by rw [hb14.cell (by first | omega | (simp; done) | (simp; omega))]; simp [go_sem, *])
            have hl14_4 : w11.heap.size < w14.heap.size := Nat.lt_of_lt_of_le (by first | omega | (simp; done) | (simp; omega)) hb14.size
            have q14_40 : w14.cell? ⟨w11.heap.size, 0, none⟩ = some (.int .i64 (1000 + 10 * v)) := (by rw [hb14.cell (by first | omega | (simp; done) | (simp; omega))]; simp [go_sem, *])
            have q14_41 : w14.cell? ⟨w11.heap.size, 1, none⟩ = some (.int .i64 t) := (by rw [hb14.cell (by first | omega | (simp; done) | (simp; omega))]; simp [go_sem, *])
            have hl14_5 : w12.heap.size < w14.heap.size := Nat.lt_of_lt_of_le (by first | omega | (simp; done) | (simp; omega)) hb14.size
            have q14_50 : w14.cell? ⟨w12.heap.size, 0, none⟩ = some (.int .i64 pl) := (by rw [hb14.cell (by first | omega | (simp; done) | (simp; omega))]; simp [go_sem, *])
            have q14_51 : w14.cell? ⟨w12.heap.size, 1, none⟩ = some (.int .i64 pu) := (by rw [hb14.cell (by first | omega | (simp; done) | (simp; omega))]; simp [go_sem, *])
            have B14 : Below w.heap.size w w14 := Below.trans (by repeat' (first | (with_reducible exact Below.refl _ _) | (with_reducible assumption) | (with_reducible refine Below.alloc ?_ ?_ _) | (with_reducible refine Below.drew ?_) | (with_reducible refine belowDraws ?_ _) | (with_reducible refine Below.setCell ?_ ?_ _) | omega | (simp; done) | (simp; omega))) (hb14.mono (by first | omega | (simp; done) | (simp; omega)))
            have hz14 := B14.size
            have S14 : Dice w14 bd A n c l := Dice.over (by repeat' (first | (with_reducible assumption) | (with_reducible refine Dice.alloc ?_ _) | (with_reducible refine Dice.drew ?_) | (with_reducible refine Dice.drewN ?_ _) | (with_reducible refine Dice.set ?_ ?_ _) | (first | omega | (simp; done) | (simp; omega)))) hb14
            have y14 := S14.inside
            clear q13_00 q13_01 q13_10 q13_11 q13_20 q13_21 q13_30 q13_31 q13_40 q13_41 q13_50 q13_51 hl13_0 hl13_1 hl13_2 hl13_3 hl13_4 hl13_5
            clear hb14
            clear MB CB
            go_wp2_with fail
            all_goals go_ret
            all_goals exact ⟨endBool (by simp_all), by repeat' (first | (with_reducible exact Below.refl _ _) | (with_reducible assumption) | (with_reducible refine Below.alloc ?_ ?_ _) | (with_reducible refine Below.drew ?_) | (with_reducible refine belowDraws ?_ _) | (with_reducible refine Below.setCell ?_ ?_ _) | omega | (simp; done) | (simp; omega))⟩
        · have ha : (0 : Int) ≤ 0 ∧ 0 ≤ len := by omega
          have MB := fun W => iMayBeAt_any s (1000 + 10 * v) t len (0) eye W
          have CB := fun W => iCountReadings_any s len (0) eye W
          have ho := HO.out (0)
          rw [HR.out (0) ha] at MB
          rw [HC.out (0) ha] at CB
          have hm := HM.out
          obtain ⟨ow, how⟩ : ∃ x : Nat, (reads s len (0) eye).length = x := ⟨_, rfl⟩
          have hw := reads_le s len (0) eye
          rw [how] at CB ho hw
          clear HO HR HC HM how ha
          rw [hm] at MB ho
          simp only at MB
          have ho1 := ho rfl
          clear ho hm
          go_wp2_with fail
          refine (MB _).mono ?_
          rintro e w13 ⟨rfl, hb13⟩
          have hl13_0 : w2.heap.size < w13.heap.size := Nat.lt_of_lt_of_le (by first | omega | (simp; done) | (simp; omega)) hb13.size
          have q13_00 : w13.cell? ⟨w2.heap.size, 0, none⟩ = some (.int .i64 0) := (by rw [hb13.cell (by first | omega | (simp; done) | (simp; omega))]; simp [go_sem, *])
          have q13_01 : w13.cell? ⟨w2.heap.size, 1, none⟩ = some (.int .i64 0) := (by rw [hb13.cell (by first | omega | (simp; done) | (simp; omega))]; simp [go_sem, *])
          have hl13_1 : w3.heap.size < w13.heap.size := Nat.lt_of_lt_of_le (by first | omega | (simp; done) | (simp; omega)) hb13.size
          have q13_10 : w13.cell? ⟨w3.heap.size, 0, none⟩ = some (.int .i64 0) := (by rw [hb13.cell (by first | omega | (simp; done) | (simp; omega))]; simp [go_sem, *])
          have q13_11 : w13.cell? ⟨w3.heap.size, 1, none⟩ = some (.int .i64 0) := (by rw [hb13.cell (by first | omega | (simp; done) | (simp; omega))]; simp [go_sem, *])
          have hl13_2 : w4.heap.size < w13.heap.size := Nat.lt_of_lt_of_le (by first | omega | (simp; done) | (simp; omega)) hb13.size
          have q13_20 : w13.cell? ⟨w4.heap.size, 0, none⟩ = some (.int .i64 0) := (by rw [hb13.cell (by first | omega | (simp; done) | (simp; omega))]; simp [go_sem, *])
          have q13_21 : w13.cell? ⟨w4.heap.size, 1, none⟩ = some (.int .i64 0) := (by rw [hb13.cell (by first | omega | (simp; done) | (simp; omega))]; simp [go_sem, *])
          have hl13_3 : w5.heap.size < w13.heap.size := Nat.lt_of_lt_of_le (by first | omega | (simp; done) | (simp; omega)) hb13.size
          have q13_30 : w13.cell? ⟨w5.heap.size, 0, none⟩ = some (.int .i64 0) := (by rw [hb13.cell (by first | omega | (simp; done) | (simp; omega))]; simp [go_sem, *])
          have q13_31 : w13.cell? ⟨w5.heap.size, 1, none⟩ = some (.int .i64 0) := (by rw [hb13.cell (by first | omega | (simp; done) | (simp; omega))]; simp [go_sem, *])
          have hl13_4 : w11.heap.size < w13.heap.size := Nat.lt_of_lt_of_le (by first | omega | (simp; done) | (simp; omega)) hb13.size
          have q13_40 : w13.cell? ⟨w11.heap.size, 0, none⟩ = some (.int .i64 (1000 + 10 * v)) := (by rw [hb13.cell (by first | omega | (simp; done) | (simp; omega))]; simp [go_sem, *])
          have q13_41 : w13.cell? ⟨w11.heap.size, 1, none⟩ = some (.int .i64 t) := (by rw [hb13.cell (by first | omega | (simp; done) | (simp; omega))]; simp [go_sem, *])
          have hl13_5 : w12.heap.size < w13.heap.size := Nat.lt_of_lt_of_le (by first | omega | (simp; done) | (simp; omega)) hb13.size
          have q13_50 : w13.cell? ⟨w12.heap.size, 0, none⟩ = some (.int .i64 0) := (by rw [hb13.cell (by first | omega | (simp; done) | (simp; omega))]; simp [go_sem, *])
          have q13_51 : w13.cell? ⟨w12.heap.size, 1, none⟩ = some (.int .i64 pu) := (by rw [hb13.cell (by first | omega | (simp; done) | (simp; omega))]; simp [go_sem, *])
          have B13 : Below w.heap.size w w13 := Below.trans (by repeat' (first | (with_reducible exact Below.refl _ _) | (with_reducible assumption) | (with_reducible refine Below.alloc ?_ ?_ _) | (with_reducible refine Below.drew ?_) | (with_reducible refine belowDraws ?_ _) | (with_reducible refine Below.setCell ?_ ?_ _) | omega | (simp; done) | (simp; omega))) (hb13.mono (by first | omega | (simp; done) | (simp; omega)))
          have hz13 := B13.size
          have S13 : Dice w13 bd A n c l := Dice.over (by repeat' (first | (with_reducible assumption) | (with_reducible refine Dice.alloc ?_ _) | (with_reducible refine Dice.drew ?_) | (with_reducible refine Dice.drewN ?_ _) | (with_reducible refine Dice.set ?_ ?_ _) | (first | omega | (simp; done) | (simp; omega)))) hb13
          have y13 := S13.inside
          clear q12_00 q12_01 q12_10 q12_11 q12_20 q12_21 q12_30 q12_31 q12_40 q12_41 hl12_0 hl12_1 hl12_2 hl12_3 hl12_4
          clear hb13
          go_wp2_with fail
          refine (CB _).mono ?_
          rintro e w14 ⟨rfl, hb14⟩
          have hl14_0 : w2.heap.size < w14.heap.size := Nat.lt_of_lt_of_le (by first | omega | (simp; done) | (simp; omega)) hb14.size
          have q14_00 : w14.cell? ⟨w2.heap.size, 0, none⟩ = some (.int .i64 0) := (by rw [hb14.cell (by first | omega | (simp; done) | (simp; omega))]; simp [go_sem, *])
          have q14_01 : w14.cell? ⟨w2.heap.size, 1, none⟩ = some (.int .i64 0) := (by rw [hb14.cell (by first | omega | (simp; done) | (simp; omega))]; simp [go_sem, *])
          have hl14_1 : w3.heap.size < w14.heap.size := Nat.lt_of_lt_of_le (by first | omega | (simp; done) | (simp; omega)) hb14.size
          have q14_10 : w14.cell? ⟨w3.heap.size, 0, none⟩ = some (.int .i64 0) := (by rw [hb14.cell (by first | omega | (simp; done) | (simp; omega))]; simp [go_sem, *])
          have q14_11 : w14.cell? ⟨w3.heap.size, 1, none⟩ = some (.int .i64 0) := (by rw [hb14.cell (by first | omega | (simp; done) | (simp; omega))]; simp [go_sem, *])
          have hl14_2 : w4.heap.size < w14.heap.size := Nat.lt_of_lt_of_le (by first | omega | (simp; done) | (simp; omega)) hb14.size
          have q14_20 : w14.cell? ⟨w4.heap.size, 0, none⟩ = some (.int .i64 0) := (by rw [hb14.cell (by first | omega | (simp; done) | (simp; omega))]; simp [go_sem, *])
          have q14_21 : w14.cell? ⟨w4.heap.size, 1, none⟩ = some (.int .i64 0) := (by rw [hb14.cell (by first | omega | (simp; done) | (simp; omega))]; simp [go_sem, *])
          have hl14_3 : w5.heap.size < w14.heap.size := Nat.lt_of_lt_of_le (by first | omega | (simp; done) | (simp; omega)) hb14.size
          have q14_30 : w14.cell? ⟨w5.heap.size, 0, none⟩ = some (.int .i64 0) := (by rw [hb14.cell (by first | omega | (simp; done) | (simp; omega))]; simp [go_sem, *])
          have q14_31 : w14.cell? ⟨w5.heap.size, 1, none⟩ = some (.int .i64 0) := (by rw [hb14.cell (by first | omega | (simp; done) | (simp; omega))]; simp [go_sem, *])
          have hl14_4 : w11.heap.size < w14.heap.size := Nat.lt_of_lt_of_le (by first | omega | (simp; done) | (simp; omega)) hb14.size
          have q14_40 : w14.cell? ⟨w11.heap.size, 0, none⟩ = some (.int .i64 (1000 + 10 * v)) := (by rw [hb14.cell (by first | omega | (simp; done) | (simp; omega))]; simp [go_sem, *])
          have q14_41 : w14.cell? ⟨w11.heap.size, 1, none⟩ = some (.int .i64 t) := (by rw [hb14.cell (by first | omega | (simp; done) | (simp; omega))]; simp [go_sem, *])
          have hl14_5 : w12.heap.size < w14.heap.size := Nat.lt_of_lt_of_le (by first | omega | (simp; done) | (simp; omega)) hb14.size
          have q14_50 : w14.cell? ⟨w12.heap.size, 0, none⟩ = some (.int .i64 0) := (by rw [hb14.cell (by first | omega | (simp; done) | (simp; omega))]; simp [go_sem, *])
          have q14_51 : w14.cell? ⟨w12.heap.size, 1, none⟩ = some (.int .i64 pu) := (by rw [hb14.cell (by first | omega | (simp; done) | (simp; omega))]; simp [go_sem, *])
          have B14 : Below w.heap.size w w14 := Below.trans (by repeat' (first | (with_reducible exact Below.refl _ _) | (with_reducible assumption) | (with_reducible refine Below.alloc ?_ ?_ _) | (with_reducible refine Below.drew ?_) | (with_reducible refine belowDraws ?_ _) | (with_reducible refine Below.setCell ?_ ?_ _) | omega | (simp; done) | (simp; omega))) (hb14.mono (by first | omega | (simp; done) | (simp; omega)))
          have hz14 := B14.size
          have S14 : Dice w14 bd A n c l := Dice.over (by repeat' (first | (with_reducible assumption) | (with_reducible refine Dice.alloc ?_ _) | (with_reducible refine Dice.drew ?_) | (with_reducible refine Dice.drewN ?_ _) | (with_reducible refine Dice.set ?_ ?_ _) | (first | omega | (simp; done) | (simp; omega)))) hb14
          have y14 := S14.inside
          clear q13_00 q13_01 q13_10 q13_11 q13_20 q13_21 q13_30 q13_31 q13_40 q13_41 q13_50 q13_51 hl13_0 hl13_1 hl13_2 hl13_3 hl13_4 hl13_5
          clear hb14
          clear MB CB
          go_wp2_with fail
          all_goals go_ret
          all_goals exact ⟨endBool (by simp_all), by repeat' (first | (with_reducible exact Below.refl _ _) | (with_reducible assumption) | (with_reducible refine Below.alloc ?_ ?_ _) | (with_reducible refine Below.drew ?_) | (with_reducible refine belowDraws ?_ _) | (with_reducible refine Below.setCell ?_ ?_ _) | omega | (simp; done) | (simp; omega))⟩
        · have ha : (0 : Int) ≤ pl ∧ pl ≤ len := by omega
          have MB := fun W => iMayBeAt_any s (1000 + 10 * v) t len (pl) eye W
          have CB := fun W => iCountReadings_any s len (pl) eye W
          have ho := HO.out (pl)
          rw [HR.out (pl) ha] at MB
          rw [HC.out (pl) ha] at CB
          have hm := HM.out
          obtain ⟨ow, how⟩ : ∃ x : Nat, (reads s len (pl) eye).length = x := ⟨_, rfl⟩
          have hw := reads_le s len (pl) eye
          rw [how] at CB ho hw
          clear HO HR HC HM how ha
          rw [hm] at MB ho
          simp only at MB
          have ho1 := ho rfl
          clear ho hm
          go_wp2_with fail
          refine (MB _).mono ?_
          rintro e w13 ⟨rfl, hb13⟩
          have hl13_0 : w2.heap.size < w13.heap.size := Nat.lt_of_lt_of_le (by first | omega | (simp; done) | (simp; omega)) hb13.size
          have q13_00 : w13.cell? ⟨w2.heap.size, 0, none⟩ = some (.int .i64 0) := (by rw [hb13.cell (by first | omega | (simp; done) | (simp; omega))]; simp [go_sem, *])
          have q13_01 : w13.cell? ⟨w2.heap.size, 1, none⟩ = some (.int .i64 0) := (by rw [hb13.cell (by first | omega | (simp; done) | (simp; omega))]; simp [go_sem, *])
          have hl13_1 : w3.heap.size < w13.heap.size := Nat.lt_of_lt_of_le (by first | omega | (simp; done) | (simp; omega)) hb13.size
          have q13_10 : w13.cell? ⟨w3.heap.size, 0, none⟩ = some (.int .i64 0) := (by rw [hb13.cell (by first | omega | (simp; done) | (simp; omega))]; simp [go_sem, *])
          have q13_11 : w13.cell? ⟨w3.heap.size, 1, none⟩ = some (.int .i64 0) := (by rw [hb13.cell (by first | omega | (simp; done) | (simp; omega))]; simp [go_sem, *])
          have hl13_2 : w4.heap.size < w13.heap.size := Nat.lt_of_lt_of_le (by first | omega | (simp; done) | (simp; omega)) hb13.size
          have q13_20 : w13.cell? ⟨w4.heap.size, 0, none⟩ = some (.int .i64 0) := (by rw [hb13.cell (by first | omega | (simp; done) | (simp; omega))]; simp [go_sem, *])
          have q13_21 : w13.cell? ⟨w4.heap.size, 1, none⟩ = some (.int .i64 0) := (by rw [hb13.cell (by first | omega | (simp; done) | (simp; omega))]; simp [go_sem, *])
          have hl13_3 : w5.heap.size < w13.heap.size := Nat.lt_of_lt_of_le (by first | omega | (simp; done) | (simp; omega)) hb13.size
          have q13_30 : w13.cell? ⟨w5.heap.size, 0, none⟩ = some (.int .i64 0) := (by rw [hb13.cell (by first | omega | (simp; done) | (simp; omega))]; simp [go_sem, *])
          have q13_31 : w13.cell? ⟨w5.heap.size, 1, none⟩ = some (.int .i64 0) := (by rw [hb13.cell (by first | omega | (simp; done) | (simp; omega))]; simp [go_sem, *])
          have hl13_4 : w11.heap.size < w13.heap.size := Nat.lt_of_lt_of_le (by first | omega | (simp; done) | (simp; omega)) hb13.size
          have q13_40 : w13.cell? ⟨w11.heap.size, 0, none⟩ = some (.int .i64 (1000 + 10 * v)) := (by rw [hb13.cell (by first | omega | (simp; done) | (simp; omega))]; simp [go_sem, *])
          have q13_41 : w13.cell? ⟨w11.heap.size, 1, none⟩ = some (.int .i64 t) := (by rw [hb13.cell (by first | omega | (simp; done) | (simp; omega))]; simp [go_sem, *])
          have hl13_5 : w12.heap.size < w13.heap.size := Nat.lt_of_lt_of_le (by first | omega | (simp; done) | (simp; omega)) hb13.size
          have q13_50 : w13.cell? ⟨w12.heap.size, 0, none⟩ = some (.int .i64 pl) := (by rw [hb13.cell (by first | omega | (simp; done) | (simp; omega))]; simp [go_sem, *])
          have q13_51 : w13.cell? ⟨w12.heap.size, 1, none⟩ = some (.int .i64 pu) := (by rw [hb13.cell (by first | omega | (simp; done) | (simp; omega))]; simp [go_sem, *])
          have B13 : Below w.heap.size w w13 := Below.trans (by repeat' (first | (with_reducible exact Below.refl _ _) | (with_reducible assumption) | (with_reducible refine Below.alloc ?_ ?_ _) | (with_reducible refine Below.drew ?_) | (with_reducible refine belowDraws ?_ _) | (with_reducible refine Below.setCell ?_ ?_ _) | omega | (simp; done) | (simp; omega))) (hb13.mono (by first | omega | (simp; done) | (simp; omega)))
          have hz13 := B13.size
          have S13 : Dice w13 bd A n c l := Dice.over (by repeat' (first | (with_reducible assumption) | (with_reducible refine Dice.alloc ?_ _) | (with_reducible refine Dice.drew ?_) | (with_reducible refine Dice.drewN ?_ _) | (with_reducible refine Dice.set ?_ ?_ _) | (first | omega | (simp; done) | (simp; omega)))) hb13
          have y13 := S13.inside
          clear q12_00 q12_01 q12_10 q12_11 q12_20 q12_21 q12_30 q12_31 q12_40 q12_41 hl12_0 hl12_1 hl12_2 hl12_3 hl12_4
          clear hb13
          go_wp2_with fail
          refine (CB _).mono ?_
          rintro e w14 ⟨rfl, hb14⟩
          have hl14_0 : w2.heap.size < w14.heap.size := Nat.lt_of_lt_of_le (by first | omega | (simp; done) | (simp; omega)) hb14.size
          have q14_00 : w14.cell? ⟨w2.heap.size, 0, none⟩ = some (.int .i64 0) := (by rw [hb14.cell (by first | omega | (simp; done) | (simp; omega))]; simp [go_sem, *])
          have q14_01 : w14.cell? ⟨w2.heap.size, 1, none⟩ = some (.int .i64 0) := (by rw [hb14.cell (by first | omega | (simp; done) | (simp; omega))]; simp [go_sem, *])
          have hl14_1 : w3.heap.size < w14.heap.size := Nat.lt_of_lt_of_le (by first | omega | (simp; done) | (simp; omega)) hb14.size
          have q14_10 : w14.cell? ⟨w3.heap.size, 0, none⟩ = some (.int .i64 0) := (by rw [hb14.cell (by first | omega | (simp; done) | (simp; omega))]; simp [go_sem, *])
          have q14_11 : w14.cell? ⟨w3.heap.size, 1, none⟩ = some (.int .i64 0) := (by rw [hb14.cell (by first | omega | (simp; done) | (simp; omega))]; simp [go_sem, *])
          have hl14_2 : w4.heap.size < w14.heap.size := Nat.lt_of_lt_of_le (by first | omega | (simp; done) | (simp; omega)) hb14.size
          have q14_20 : w14.cell? ⟨w4.heap.size, 0, none⟩ = some (.int .i64 0) := (by rw [hb14.cell (by first | omega | (simp; done) | (simp; omega))]; simp [go_sem, *])
          have q14_21 : w14.cell? ⟨w4.heap.size, 1, none⟩ = some (.int .i64 0) := (by rw [hb14.cell (by first | omega | (simp; done) | (simp; omega))]; simp [go_sem, *])
          have hl14_3 : w5.heap.size < w14.heap.size := Nat.lt_of_lt_of_le (by first | omega | (simp; done) | (simp; omega)) hb14.size
          have q14_30 : w14.cell? ⟨w5.heap.size, 0, none⟩ = some (.int .i64 0) := (by rw [hb14.cell (by first | omega | (simp; done) | (simp; omega))]; simp [go_sem, *])
          have q14_31 : w14.cell? ⟨w5.heap.size, 1, none⟩ = some (.int .i64 0) := (by rw [hb14.cell (by first | omega | (simp; done) | (simp; omega))]; simp [go_sem, *])
          have hl14_4 : w11.heap.size < w14.heap.size := Nat.lt_of_lt_of_le (by first | omega | (simp; done) | (simp; omega)) hb14.size
          have q14_40 : w14.cell? ⟨w11.heap.size, 0, none⟩ = some (.int .i64 (1000 + 10 * v)) := (by rw [hb14.cell (by first | omega | (simp; done) | (simp; omega))]; simp [go_sem, *])
          have q14_41 : w14.cell? ⟨w11.heap.size, 1, none⟩ = some (.int .i64 t) := (by rw [hb14.cell (by first | omega | (simp; done) | (simp; omega))]; simp [go_sem, *])
          have hl14_5 : w12.heap.size < w14.heap.size := Nat.lt_of_lt_of_le (by first | omega | (simp; done) | (simp; omega)) hb14.size
          have q14_50 : w14.cell? ⟨w12.heap.size, 0, none⟩ = some (.int .i64 pl) := (by rw [hb14.cell (by first | omega | (simp; done) | (simp; omega))]; simp [go_sem, *])
          have q14_51 : w14.cell? ⟨w12.heap.size, 1, none⟩ = some (.int .i64 pu) := (by rw [hb14.cell (by first | omega | (simp; done) | (simp; omega))]; simp [go_sem, *])
          have B14 : Below w.heap.size w w14 := Below.trans (by repeat' (first | (with_reducible exact Below.refl _ _) | (with_reducible assumption) | (with_reducible refine Below.alloc ?_ ?_ _) | (with_reducible refine Below.drew ?_) | (with_reducible refine belowDraws ?_ _) | (with_reducible refine Below.setCell ?_ ?_ _) | omega | (simp; done) | (simp; omega))) (hb14.mono (by first | omega | (simp; done) | (simp; omega)))
          have hz14 := B14.size
          have S14 : Dice w14 bd A n c l := Dice.over (by repeat' (first | (with_reducible assumption) | (with_reducible refine Dice.alloc ?_ _) | (with_reducible refine Dice.drew ?_) | (with_reducible refine Dice.drewN ?_ _) | (with_reducible refine Dice.set ?_ ?_ _) | (first | omega | (simp; done) | (simp; omega)))) hb14
          have y14 := S14.inside
          clear q13_00 q13_01 q13_10 q13_11 q13_20 q13_21 q13_30 q13_31 q13_40 q13_41 q13_50 q13_51 hl13_0 hl13_1 hl13_2 hl13_3 hl13_4 hl13_5
          clear hb14
          clear MB CB
          go_wp2_with fail
          all_goals go_ret
          all_goals exact ⟨endBool (by simp_all), by repeat' (first | (with_reducible exact Below.refl _ _) | (with_reducible assumption) | (with_reducible refine Below.alloc ?_ ?_ _) | (with_reducible refine Below.drew ?_) | (with_reducible refine belowDraws ?_ _) | (with_reducible refine Below.setCell ?_ ?_ _) | omega | (simp; done) | (simp; omega))⟩
        · have ha : (0 : Int) ≤ pl ∧ pl ≤ pl := by omega
          have MB := fun W => iMayBeAt_any s (1000 + 10 * v) t pl (pl) eye W
          have CB := fun W => iCountReadings_any s pl (pl) eye W
          have ho := HO.out (pl)
          rw [HR.out (pl) ha] at MB
          rw [HC.out (pl) ha] at CB
          have hm := HM.out
          obtain ⟨ow, how⟩ : ∃ x : Nat, (reads s pl (pl) eye).length = x := ⟨_, rfl⟩
          have hw := reads_le s pl (pl) eye
          rw [how] at CB ho hw
          clear HO HR HC HM how ha
          rw [hm] at MB ho
          simp only at MB
          have ho1 := ho rfl
          clear ho hm
          go_wp2_with fail
          refine (MB _).mono ?_
          rintro e w13 ⟨rfl, hb13⟩
          have hl13_0 : w2.heap.size < w13.heap.size := Nat.lt_of_lt_of_le (by first | omega | (simp; done) | (simp; omega)) hb13.size
          have q13_00 : w13.cell? ⟨w2.heap.size, 0, none⟩ = some (.int .i64 0) := (by rw [hb13.cell (by first | omega | (simp; done) | (simp; omega))]; simp [go_sem, *])
          have q13_01 : w13.cell? ⟨w2.heap.size, 1, none⟩ = some (.int .i64 0) := (by rw [hb13.cell (by first | omega | (simp; done) | (simp; omega))]; simp [go_sem, *])
          have hl13_1 : w3.heap.size < w13.heap.size := Nat.lt_of_lt_of_le (by first | omega | (simp; done) | (simp; omega)) hb13.size
          have q13_10 : w13.cell? ⟨w3.heap.size, 0, none⟩ = some (.int .i64 0) := (by rw [hb13.cell (by first | omega | (simp; done) | (simp; omega))]; simp [go_sem, *])
          have q13_11 : w13.cell? ⟨w3.heap.size, 1, none⟩ = some (.int .i64 0) := (by rw [hb13.cell (by first | omega | (simp; done) | (simp; omega))]; simp [go_sem, *])
          have hl13_2 : w4.heap.size < w13.heap.size := Nat.lt_of_lt_of_le (by first | omega | (simp; done) | (simp; omega)) hb13.size
          have q13_20 : w13.cell? ⟨w4.heap.size, 0, none⟩ = some (.int .i64 0) := (by rw [hb13.cell (by first | omega | (simp; done) | (simp; omega))]; simp [go_sem, *])
          have q13_21 : w13.cell? ⟨w4.heap.size, 1, none⟩ = some (.int .i64 0) := (by rw [hb13.cell (by first | omega | (simp; done) | (simp; omega))]; simp [go_sem, *])
          have hl13_3 : w5.heap.size < w13.heap.size := Nat.lt_of_lt_of_le (by first | omega | (simp; done) | (simp; omega)) hb13.size
          have q13_30 : w13.cell? ⟨w5.heap.size, 0, none⟩ = some (.int .i64 0) := (by rw [hb13.cell (by first | omega | (simp; done) | (simp; omega))]; simp [go_sem, *])
          have q13_31 : w13.cell? ⟨w5.heap.size, 1, none⟩ = some (.int .i64 0) := (by rw [hb13.cell (by first | omega | (simp; done) | (simp; omega))]; simp [go_sem, *])
          have hl13_4 : w11.heap.size < w13.heap.size := Nat.lt_of_lt_of_le (by first | omega | (simp; done) | (simp; omega)) hb13.size
          have q13_40 : w13.cell? ⟨w11.heap.size, 0, none⟩ = some (.int .i64 (1000 + 10 * v)) := (by rw [hb13.cell (by first | omega | (simp; done) | (simp; omega))]; simp [go_sem, *])
          have q13_41 : w13.cell? ⟨w11.heap.size, 1, none⟩ = some (.int .i64 t) := (by rw [hb13.cell (by first | omega | (simp; done) | (simp; omega))]; simp [go_sem, *])
          have hl13_5 : w12.heap.size < w13.heap.size := Nat.lt_of_lt_of_le (by first | omega | (simp; done) | (simp; omega)) hb13.size
          have q13_50 : w13.cell? ⟨w12.heap.size, 0, none⟩ = some (.int .i64 pl) := (by rw [hb13.cell (by first | omega | (simp; done) | (simp; omega))]; simp [go_sem, *])
          have q13_51 : w13.cell? ⟨w12.heap.size, 1, none⟩ = some (.int .i64 pu) := (by rw [hb13.cell (by first | omega | (simp; done) | (simp; omega))]; simp [go_sem, *])
          have B13 : Below w.heap.size w w13 := Below.trans (by repeat' (first | (with_reducible exact Below.refl _ _) | (with_reducible assumption) | (with_reducible refine Below.alloc ?_ ?_ _) | (with_reducible refine Below.drew ?_) | (with_reducible refine belowDraws ?_ _) | (with_reducible refine Below.setCell ?_ ?_ _) | omega | (simp; done) | (simp; omega))) (hb13.mono (by first | omega | (simp; done) | (simp; omega)))
          have hz13 := B13.size
          have S13 : Dice w13 bd A n c l := Dice.over (by repeat' (first | (with_reducible assumption) | (with_reducible refine Dice.alloc ?_ _) | (with_reducible refine Dice.drew ?_) | (with_reducible refine Dice.drewN ?_ _) | (with_reducible refine Dice.set ?_ ?_ _) | (first | omega | (simp; done) | (simp; omega)))) hb13
          have y13 := S13.inside
          clear q12_00 q12_01 q12_10 q12_11 q12_20 q12_21 q12_30 q12_31 q12_40 q12_41 hl12_0 hl12_1 hl12_2 hl12_3 hl12_4
          clear hb13
          go_wp2_with fail
          refine (CB _).mono ?_
          rintro e w14 ⟨rfl, hb14⟩
          have hl14_0 : w2.heap.size < w14.heap.size := Nat.lt_of_lt_of_le (by first | omega | (simp; done) | (simp; omega)) hb14.size
          have q14_00 : w14.cell? ⟨w2.heap.size, 0, none⟩ = some (.int .i64 0) := (by rw [hb14.cell (by first | omega | (simp; done) | (simp; omega))]; simp [go_sem, *])
          have q14_01 : w14.cell? ⟨w2.heap.size, 1, none⟩ = some (.int .i64 0) := (by rw [hb14.cell (by first | omega | (simp; done) | (simp; omega))]; simp [go_sem, *])
          have hl14_1 : w3.heap.size < w14.heap.size := Nat.lt_of_lt_of_le (by first | omega | (simp; done) | (simp; omega)) hb14.size
          have q14_10 : w14.cell? ⟨w3.heap.size, 0, none⟩ = some (.int .i64 0) := (by rw [hb14.cell (by first | omega | (simp; done) | (simp; omega))]; simp [go_sem, *])
          have q14_11 : w14.cell? ⟨w3.heap.size, 1, none⟩ = some (.int .i64 0) := (by rw [hb14.cell (by first | omega | (simp; done) | (simp; omega))]; simp [go_sem, *])
          have hl14_2 : w4.heap.size < w14.heap.size := Nat.lt_of_lt_of_le (by first | omega | (simp; done) | (simp; omega)) hb14.size
          have q14_20 : w14.cell? ⟨w4.heap.size, 0, none⟩ = some (.int .i64 0) := (by rw [hb14.cell (by first | omega | (simp; done) | (simp; omega))]; simp [go_sem, *])
          have q14_21 : w14.cell? ⟨w4.heap.size, 1, none⟩ = some (.int .i64 0) := (by rw [hb14.cell (by first | omega | (simp; done) | (simp; omega))]; simp [go_sem, *])
          have hl14_3 : w5.heap.size < w14.heap.size := Nat.lt_of_lt_of_le (by first | omega | (simp; done) | (simp; omega)) hb14.size
          have q14_30 : w14.cell? ⟨w5.heap.size, 0, none⟩ = some (.int .i64 0) := (by rw [hb14.cell (by first | omega | (simp; done) | (simp; omega))]; simp [go_sem, *])
          have q14_31 : w14.cell? ⟨w5.heap.size, 1, none⟩ = some (.int .i64 0) := (by rw [hb14.cell (by first | omega | (simp; done) | (simp; omega))]; simp [go_sem, *])
          have hl14_4 : w11.heap.size < w14.heap.size := Nat.lt_of_lt_of_le (by first | omega | (simp; done) | (simp; omega)) hb14.size
          have q14_40 : w14.cell? ⟨w11.heap.size, 0, none⟩ = some (.int .i64 (1000 + 10 * v)) := (by rw [hb14.cell (by first | omega | (simp; done) | (simp; omega))]; simp [go_sem, *])
          have q14_41 : w14.cell? ⟨w11.heap.size, 1, none⟩ = some (.int .i64 t) := (by rw [hb14.cell (by first | omega | (simp; done) | (simp; omega))]; simp [go_sem, *])
          have hl14_5 : w12.heap.size < w14.heap.size := Nat.lt_of_lt_of_le (by first | omega | (simp; done) | (simp; omega)) hb14.size
          have q14_50 : w14.cell? ⟨w12.heap.size, 0, none⟩ = some (.int .i64 pl) := (by rw [hb14.cell (by first | omega | (simp; done) | (simp; omega))]; simp [go_sem, *])
          have q14_51 : w14.cell? ⟨w12.heap.size, 1, none⟩ = some (.int .i64 pu) := (by rw [hb14.cell (by first | omega | (simp; done) | (simp; omega))]; simp [go_sem, *])
          have B14 : Below w.heap.size w w14 := Below.trans (by repeat' (first | (with_reducible exact Below.refl _ _) | (with_reducible assumption) | (with_reducible refine Below.alloc ?_ ?_ _) | (with_reducible refine Below.drew ?_) | (with_reducible refine belowDraws ?_ _) | (with_reducible refine Below.setCell ?_ ?_ _) | omega | (simp; done) | (simp; omega))) (hb14.mono (by first | omega | (simp; done) | (simp; omega)))
          have hz14 := B14.size
          have S14 : Dice w14 bd A n c l := Dice.over (by repeat' (first | (with_reducible assumption) | (with_reducible refine Dice.alloc ?_ _) | (with_reducible refine Dice.drew ?_) | (with_reducible refine Dice.drewN ?_ _) | (with_reducible refine Dice.set ?_ ?_ _) | (first | omega | (simp; done) | (simp; omega)))) hb14
          have y14 := S14.inside
          clear q13_00 q13_01 q13_10 q13_11 q13_20 q13_21 q13_30 q13_31 q13_40 q13_41 q13_50 q13_51 hl13_0 hl13_1 hl13_2 hl13_3 hl13_4 hl13_5
          clear hb14
          clear MB CB
          go_wp2_with fail
          all_goals go_ret
          all_goals exact ⟨endBool (by simp_all), by repeat' (first | (with_reducible exact Below.refl _ _) | (with_reducible assumption) | (with_reducible refine Below.alloc ?_ ?_ _) | (with_reducible refine Below.drew ?_) | (with_reducible refine belowDraws ?_ _) | (with_reducible refine Below.setCell ?_ ?_ _) | omega | (simp; done) | (simp; omega))⟩
        · have ha : (0 : Int) ≤ len ∧ len ≤ len := by omega
          have MB := fun W => iMayBeAt_any s (1000 + 10 * v) t len (len) eye W
          have CB := fun W => iCountReadings_any s len (len) eye W
          have ho := HO.out (len)
          rw [HR.out (len) ha] at MB
          rw [HC.out (len) ha] at CB
          obtain ⟨ow, how⟩ : ∃ x : Nat, (reads s len (len) eye).length = x := ⟨_, rfl⟩
          have hw := reads_le s len (len) eye
          rw [how] at CB ho hw
          clear HO HR HC HM how ha
          have hne : ¬ (len) = pl := by omega
          obtain ⟨ok, hok⟩ : ∃ x, mayB s (1000 + 10 * v) t len (len) eye = x := ⟨_, rfl⟩
          rw [hok] at MB ho
          clear hok
          simp only at MB
          cases ok with
          | true =>
            have ho1 := ho rfl
            clear ho
            go_wp2_with fail
            refine (MB _).mono ?_
            rintro e w13 ⟨rfl, hb13⟩
            have hl13_0 : w2.heap.size < w13.heap.size := Nat.lt_of_lt_of_le (by first | omega | (simp; done) | (simp; omega)) hb13.size
            have q13_00 : w13.cell? ⟨w2.heap.size, 0, none⟩ = some (.int .i64 0) := (by rw [hb13.cell (by first | omega | (simp; done) | (simp; omega))]; simp [go_sem, *])
            have q13_01 : w13.cell? ⟨w2.heap.size, 1, none⟩ = some (.int .i64 0) := (by rw [hb13.cell (by first | omega | (simp; done) | (simp; omega))]; simp [go_sem, *])
            have hl13_1 : w3.heap.size < w13.heap.size := Nat.lt_of_lt_of_le (by first | omega | (simp; done) | (simp; omega)) hb13.size
            have q13_10 : w13.cell? ⟨w3.heap.size, 0, none⟩ = some (.int .i64 0) := (by rw [hb13.cell (by first | omega | (simp; done) | (simp; omega))]; simp [go_sem, *])
            have q13_11 : w13.cell? ⟨w3.heap.size, 1, none⟩ = some (.int .i64 0) := (by rw [hb13.cell (by first | omega | (simp; done) | (simp; omega))]; simp [go_sem, *])
            have hl13_2 : w4.heap.size < w13.heap.size := Nat.lt_of_lt_of_le (by first | omega | (simp; done) | (simp; omega)) hb13.size
            have q13_20 : w13.cell? ⟨w4.heap.size, 0, none⟩ = some (.int .i64 0) := (by rw [hb13.cell (by first | omega | (simp; done) | (simp; omega))]; simp [go_sem, *])
            have q13_21 : w13.cell? ⟨w4.heap.size, 1, none⟩ = some (.int .i64 0) := (by rw [hb13.cell (by first | omega | (simp; done) | (simp; omega))]; simp [go_sem, *])
            have hl13_3 : w5.heap.size < w13.heap.size := Nat.lt_of_lt_of_le (by first | omega | (simp; done) | (simp; omega)) hb13.size
            have q13_30 : w13.cell? ⟨w5.heap.size, 0, none⟩ = some (.int .i64 0) := (by rw [hb13.cell (by first | omega | (simp; done) | (simp; omega))]; simp [go_sem, *])
            have q13_31 : w13.cell? ⟨w5.heap.size, 1, none⟩ = some (.int .i64 0) := (by rw [hb13.cell (by first | omega | (simp; done) | (simp; omega))]; simp [go_sem, *])
            have hl13_4 : w11.heap.size < w13.heap.size := Nat.lt_of_lt_of_le (by first | omega | (simp; done) | (simp; omega)) hb13.size
            have q13_40 : w13.cell? ⟨w11.heap.size, 0, none⟩ = some (.int .i64 (1000 + 10 * v)) := (by rw [hb13.cell (by first | omega | (simp; done) | (simp; omega))]; simp [go_sem, *])
            have q13_41 : w13.cell? ⟨w11.heap.size, 1, none⟩ = some (.int .i64 t) := (by rw [hb13.cell (by first | omega | (simp; done) | (simp; omega))]; simp [go_sem, *])
            have hl13_5 : w12.heap.size < w13.heap.size := Nat.lt_of_lt_of_le (by first | omega | (simp; done) | (simp; omega)) hb13.size
            have q13_50 : w13.cell? ⟨w12.heap.size, 0, none⟩ = some (.int .i64 pl) := (by rw [hb13.cell (by first | omega | (simp; done) | (simp; omega))]; simp [go_sem, *])
            have q13_51 : w13.cell? ⟨w12.heap.size, 1, none⟩ = some (.int .i64 pu) := (by rw [hb13.cell (by first | omega | (simp; done) | (simp; omega))]; simp [go_sem, *])
            have B13 : Below w.heap.size w w13 := Below.trans (by repeat' (first | (with_reducible exact Below.refl _ _) | (with_reducible assumption) | (with_reducible refine Below.alloc ?_ ?_ _) | (with_reducible refine Below.drew ?_) | (with_reducible refine belowDraws ?_ _) | (with_reducible refine Below.setCell ?_ ?_ _) | omega | (simp; done) | (simp; omega))) (hb13.mono (by first | omega | (simp; done) | (simp; omega)))
            have hz13 := B13.size
            have S13 : Dice w13 bd A n c l := Dice.over (by repeat' (first | (with_reducible assumption) | (with_reducible refine Dice.alloc ?_ _) | (with_reducible refine Dice.drew ?_) | (with_reducible refine Dice.drewN ?_ _) | (with_reducible refine Dice.set ?_ ?_ _) | (first | omega | (simp; done) | (simp; omega)))) hb13
            have y13 := S13.inside
            clear q12_00 q12_01 q12_10 q12_11 q12_20 q12_21 q12_30 q12_31 q12_40 q12_41 hl12_0 hl12_1 hl12_2 hl12_3 hl12_4
            clear hb13
            go_wp2_with fail
            refine (CB _).mono ?_
            rintro e w14 ⟨rfl, hb14⟩
            have hl14_0 : w2.heap.size < w14.heap.size := Nat.lt_of_lt_of_le (by first | omega | (simp; done) | (simp; omega)) hb14.size
            have q14_00 : w14.cell? ⟨w2.heap.size, 0, none⟩ = some (.int .i64 0) := (by rw [hb14.cell (by first | omega | (simp; done) | (simp; omega))]; simp [go_sem, *])
            have q14_01 : w14.cell? ⟨w2.heap.size, 1, none⟩ = some (.int .i64 0) := (by rw [hb14.cell (by first | omega | (simp; done) | (simp; omega))]; simp [go_sem, *])
            have hl14_1 : w3.heap.size < w14.heap.size := Nat.lt_of_lt_of_le (by first | omega | (simp; done) | (simp; omega)) hb14.size
            have q14_10 : w14.cell? ⟨w3.heap.size, 0, none⟩ = some (.int .i64 0) := (by rw [hb14.cell (by first | omega | (simp; done) | (simp; omega))]; simp [go_sem, *])
            have q14_11 : w14.cell? ⟨w3.heap.size, 1, none⟩ = some (.int .i64 0) := (by rw [hb14.cell (by first | omega | (simp; done) | (simp; omega))]; simp [go_sem, *])
            have hl14_2 : w4.heap.size < w14.heap.size := Nat.lt_of_lt_of_le (by first | omega | (simp; done) | (simp; omega)) hb14.size
            have q14_20 : w14.cell? ⟨w4.heap.size, 0, none⟩ = some (.int .i64 0) := (by rw [hb14.cell (by first | omega | (simp; done) | (simp; omega))]; simp [go_sem, *])
            have q14_21 : w14.cell? ⟨w4.heap.size, 1, none⟩ = some (.int .i64 0) := (by rw [hb14.cell (by first | omega | (simp; done) | (simp; omega))]; simp [go_sem, *])
            have hl14_3 : w5.heap.size < w14.heap.size := Nat.lt_of_lt_of_le (by first | omega | (simp; done) | (simp; omega)) hb14.size
            have q14_30 : w14.cell? ⟨w5.heap.size, 0, none⟩ = some (.int .i64 0) := (by rw [hb14.cell (by first | omega | (simp; done) | (simp; omega))]; simp [go_sem, *])
            have q14_31 : w14.cell? ⟨w5.heap.size, 1, none⟩ = some (.int .i64 0) := (by rw [hb14.cell (by first | omega | (simp; done) | (simp; omega))]; simp [go_sem, *])
            have hl14_4 : w11.heap.size < w14.heap.size := Nat.lt_of_lt_of_le (by first | omega | (simp; done) | (simp; omega)) hb14.size
            have q14_40 : w14.cell? ⟨w11.heap.size, 0, none⟩ = some (.int .i64 (1000 + 10 * v)) := (by rw [hb14.cell (by first | omega | (simp; done) | (simp; omega))]; simp [go_sem, *])
            have q14_41 : w14.cell? ⟨w11.heap.size, 1, none⟩ = some (.int .i64 t) := (by rw [hb14.cell (by first | omega | (simp; done) | (simp; omega))]; simp [go_sem, *])
            have hl14_5 : w12.heap.size < w14.heap.size := Nat.lt_of_lt_of_le (by first | omega | (simp; done) | (simp; omega)) hb14.size
            have q14_50 : w14.cell? ⟨w12.heap.size, 0, none⟩ = some (.int .i64 pl) := (by rw [hb14.cell (by first | omega | (simp; done) | (simp; omega))]; simp [go_sem, *])
            have q14_51 : w14.cell? ⟨w12.heap.size, 1, none⟩ = some (.int .i64 pu) := (by rw [hb14.cell (by first | omega | (simp; done) | (simp; omega))]; simp [go_sem, *])
            have B14 : Below w.heap.size w w14 := Below.trans (by repeat' (first | (with_reducible exact Below.refl _ _) | (with_reducible assumption) | (with_reducible refine Below.alloc ?_ ?_ _) | (with_reducible refine Below.drew ?_) | (with_reducible refine belowDraws ?_ _) | (with_reducible refine Below.setCell ?_ ?_ _) | omega | (simp; done) | (simp; omega))) (hb14.mono (by first | omega | (simp; done) | (simp; omega)))
            have hz14 := B14.size
            have S14 : Dice w14 bd A n c l := Dice.over (by repeat' (first | (with_reducible assumption) | (with_reducible refine Dice.alloc ?_ _) | (with_reducible refine Dice.drew ?_) | (with_reducible refine Dice.drewN ?_ _) | (with_reducible refine Dice.set ?_ ?_ _) | (first | omega | (simp; done) | (simp; omega)))) hb14
            have y14 := S14.inside
            clear q13_00 q13_01 q13_10 q13_11 q13_20 q13_21 q13_30 q13_31 q13_40 q13_41 q13_50 q13_51 hl13_0 hl13_1 hl13_2 hl13_3 hl13_4 hl13_5
            clear hb14
            clear MB CB
            go_wp2_with fail
            all_goals go_ret
            all_goals exact ⟨endBool (by simp_all), by repeat' (first | (with_reducible exact Below.refl _ _) | (with_reducible assumption) | (with_reducible refine Below.alloc ?_ ?_ _) | (with_reducible refine Below.drew ?_) | (with_reducible refine belowDraws ?_ _) | (with_reducible refine Below.setCell ?_ ?_ _) | omega | (simp; done) | (simp; omega))⟩
          | false =>
            clear ho
            go_wp2_with fail
            refine (MB _).mono ?_
            rintro e w13 ⟨rfl, hb13⟩
            have hl13_0 : w2.heap.size < w13.heap.size := Nat.lt_of_lt_of_le (by first | omega | (simp; done) | (simp; omega)) hb13.size
            have q13_00 : w13.cell? ⟨w2.heap.size, 0, none⟩ = some (.int .i64 0) := (by rw [hb13.cell (by first | omega | (simp; done) | (simp; omega))]; simp [go_sem, *])
            have q13_01 : w13.cell? ⟨w2.heap.size, 1, none⟩ = some (.int .i64 0) := (by rw [hb13.cell (by first | omega | (simp; done) | (simp; omega))]; simp [go_sem, *])
            have hl13_1 : w3.heap.size < w13.heap.size := Nat.lt_of_lt_of_le (by first | omega | (simp; done) | (simp; omega)) hb13.size
            have q13_10 : w13.cell? ⟨w3.heap.size, 0, none⟩ = some (.int .i64 0) := (by rw [hb13.cell (by first | omega | (simp; done) | (simp; omega))]; simp [go_sem, *])
            have q13_11 : w13.cell? ⟨w3.heap.size, 1, none⟩ = some (.int .i64 0) := (by rw [hb13.cell (by first | omega | (simp; done) | (simp; omega))]; simp [go_sem, *])
            have hl13_2 : w4.heap.size < w13.heap.size := Nat.lt_of_lt_of_le (by first | omega | (simp; done) | (simp; omega)) hb13.size
            have q13_20 : w13.cell? ⟨w4.heap.size, 0, none⟩ = some (.int .i64 0) := (by rw [hb13.cell (by first | omega | (simp; done) | (simp; omega))]; simp [go_sem, *])
            have q13_21 : w13.cell? ⟨w4.heap.size, 1, none⟩ = some (.int .i64 0) := (by rw [hb13.cell (by first | omega | (simp; done) | (simp; omega))]; simp [go_sem, *])
            have hl13_3 : w5.heap.size < w13.heap.size := Nat.lt_of_lt_of_le (by first | omega | (simp; done) | (simp; omega)) hb13.size
            have q13_30 : w13.cell? ⟨w5.heap.size, 0, none⟩ = some (.int .i64 0) := (by rw [hb13.cell (by first | omega | (simp; done) | (simp; omega))]; simp [go_sem, *])
            have q13_31 : w13.cell? ⟨w5.heap.size, 1, none⟩ = some (.int .i64 0) := (by rw [hb13.cell (by first | omega | (simp; done) | (simp; omega))]; simp [go_sem, *])
            have hl13_4 : w11.heap.size < w13.heap.size := Nat.lt_of_lt_of_le (by first | omega | (simp; done) | (simp; omega)) hb13.size
            have q13_40 : w13.cell? ⟨w11.heap.size, 0, none⟩ = some (.int .i64 (1000 + 10 * v)) := (by rw [hb13.cell (by first | omega | (simp; done) | (simp; omega))]; simp [go_sem, *])
            have q13_41 : w13.cell? ⟨w11.heap.size, 1, none⟩ = some (.int .i64 t) := (by rw [hb13.cell (by first | omega | (simp; done) | (simp; omega))]; simp [go_sem, *])
            have hl13_5 : w12.heap.size < w13.heap.size := Nat.lt_of_lt_of_le (by first | omega | (simp; done) | (simp; omega)) hb13.size
            have q13_50 : w13.cell? ⟨w12.heap.size, 0, none⟩ = some (.int .i64 pl) := (by rw [hb13.cell (by first | omega | (simp; done) | (simp; omega))]; simp [go_sem, *])
            have q13_51 : w13.cell? ⟨w12.heap.size, 1, none⟩ = some (.int .i64 pu) := (by rw [hb13.cell (by first | omega | (simp; done) | (simp; omega))]; simp [go_sem, *])
            have B13 : Below w.heap.size w w13 := Below.trans (by repeat' (first | (with_reducible exact Below.refl _ _) | (with_reducible assumption) | (with_reducible refine Below.alloc ?_ ?_ _) | (with_reducible refine Below.drew ?_) | (with_reducible refine belowDraws ?_ _) | (with_reducible refine Below.setCell ?_ ?_ _) | omega | (simp; done) | (simp; omega))) (hb13.mono (by first | omega | (simp; done) | (simp; omega)))
            have hz13 := B13.size
            have S13 : Dice w13 bd A n c l := Dice.over (by repeat' (first | (with_reducible assumption) | (with_reducible refine Dice.alloc ?_ _) | (with_reducible refine Dice.drew ?_) | (with_reducible refine Dice.drewN ?_ _) | (with_reducible refine Dice.set ?_ ?_ _) | (first | omega | (simp; done) | (simp; omega)))) hb13
            have y13 := S13.inside
            clear q12_00 q12_01 q12_10 q12_11 q12_20 q12_21 q12_30 q12_31 q12_40 q12_41 hl12_0 hl12_1 hl12_2 hl12_3 hl12_4
            clear hb13
            go_wp2_with fail
            refine (CB _).mono ?_
            rintro e w14 ⟨rfl, hb14⟩
            have hl14_0 : w2.heap.size < w14.heap.size := Nat.lt_of_lt_of_le (by first | omega | (simp; done) | (simp; omega)) hb14.size
            have q14_00 : w14.cell? ⟨w2.heap.size, 0, none⟩ = some (.int .i64 0) := (by rw [hb14.cell (by first | omega | (simp; done) | (simp; omega))]; simp [go_sem, *])
            have q14_01 : w14.cell? ⟨w2.heap.size, 1, none⟩ = some (.int .i64 0) := (by rw [hb14.cell (by first | omega | (simp; done) | (simp; omega))]; simp [go_sem, *])
            have hl14_1 : w3.heap.size < w14.heap.size := Nat.lt_of_lt_of_le (by first | omega | (simp; done) | (simp; omega)) hb14.size
            have q14_10 : w14.cell? ⟨w3.heap.size, 0, none⟩ = some (.int .i64 0) := (by rw [hb14.cell (by first | omega | (simp; done) | (simp; omega))]; simp [go_sem, *])
            have q14_11 : w14.cell? ⟨w3.heap.size, 1, none⟩ = some (.int .i64 0) := (by rw [hb14.cell (by first | omega | (simp; done) | (simp; omega))]; simp [go_sem, *])
            have hl14_2 : w4.heap.size < w14.heap.size := Nat.lt_of_lt_of_le (by first | omega | (simp; done) | (simp; omega)) hb14.size
            have q14_20 : w14.cell? ⟨w4.heap.size, 0, none⟩ = some (.int .i64 0) := (by rw [hb14.cell (by first | omega | (simp; done) | (simp; omega))]; simp [go_sem, *])
            have q14_21 : w14.cell? ⟨w4.heap.size, 1, none⟩ = some (.int .i64 0) := (by rw [hb14.cell (by first | omega | (simp; done) | (simp; omega))]; simp [go_sem, *])
            have hl14_3 : w5.heap.size < w14.heap.size := Nat.lt_of_lt_of_le (by first | omega | (simp; done) | (simp; omega)) hb14.size
            have q14_30 : w14.cell? ⟨w5.heap.size, 0, none⟩ = some (.int .i64 0) := (by rw [hb14.cell (by first | omega | (simp; done) | (simp; omega))]; simp [go_sem, *])
            have q14_31 : w14.cell? ⟨w5.heap.size, 1, none⟩ = some (.int .i64 0) := (by rw [hb14.cell (by first | omega | (simp; done) | (simp; omega))]; simp [go_sem, *])
            have hl14_4 : w11.heap.size < w14.heap.size := Nat.lt_of_lt_of_le (by first | omega | (simp; done) | (simp; omega)) hb14.size
            have q14_40 : w14.cell? ⟨w11.heap.size, 0, none⟩ = some (.int .i64 (1000 + 10 * v)) := (by rw [hb14.cell (by first | omega | (simp; done) | (simp; omega))]; simp [go_sem, *])
            have q14_41 : w14.cell? ⟨w11.heap.size, 1, none⟩ = some (.int .i64 t) := (by rw [hb14.cell (by first | omega | (simp; done) | (simp; omega))]; simp [go_sem, *])
            have hl14_5 : w12.heap.size < w14.heap.size := Nat.lt_of_lt_of_le (by first | omega | (simp; done) | (simp; omega)) hb14.size
            have q14_50 : w14.cell? ⟨w12.heap.size, 0, none⟩ = some (.int .i64 pl) := (by rw [hb14.cell (by first | omega | (simp; done) | (simp; omega))]; simp [go_sem, *])
            have q14_51 : w14.cell? ⟨w12.heap.size, 1, none⟩ = some (.int .i64 pu) := (by rw [hb14.cell (by first | omega | (simp; done) | (simp; omega))]; simp [go_sem, *])
            have B14 : Below w.heap.size w w14 := Below.trans (by repeat' (first | (with_reducible exact Below.refl _ _) | (with_reducible assumption) | (with_reducible refine Below.alloc ?_ ?_ _) | (with_reducible refine Below.drew ?_) | (with_reducible refine belowDraws ?_ _) | (with_reducible refine Below.setCell ?_ ?_ _) | omega | (simp; done) | (simp; omega))) (hb14.mono (by first | omega | (simp; done) | (simp; omega)))
            have hz14 := B14.size
            have S14 : Dice w14 bd A n c l := Dice.over (by repeat' (first | (with_reducible assumption) | (with_reducible refine Dice.alloc ?_ _) | (with_reducible refine Dice.drew ?_) | (with_reducible refine Dice.drewN ?_ _) | (with_reducible refine Dice.set ?_ ?_ _) | (first | omega | (simp; done) | (simp; omega)))) hb14
            have y14 := S14.inside
            clear q13_00 q13_01 q13_10 q13_11 q13_20 q13_21 q13_30 q13_31 q13_40 q13_41 q13_50 q13_51 hl13_0 hl13_1 hl13_2 hl13_3 hl13_4 hl13_5
            clear hb14
            clear MB CB
            go_wp2_with fail
            all_goals go_ret
            all_goals exact ⟨endBool (by simp_all), by repeat' (first | (with_reducible exact Below.refl _ _) | (with_reducible assumption) | (with_reducible refine Below.alloc ?_ ?_ _) | (with_reducible refine Below.drew ?_) | (with_reducible refine belowDraws ?_ _) | (with_reducible refine Below.setCell ?_ ?_ _) | omega | (simp; done) | (simp; omega))⟩
      · obtain ⟨na, nb, cnt, e1, e2, e3, nab, nbb, c0, c1⟩ := rd_some hp hr
        obtain ⟨⟨s1, s2⟩, ⟨l1, l2⟩, _, y1, y2⟩ := ptB_iff.1 hp
        have nf := nFigs_bd s
        have BT := fun W => between_ok (figAt na).1 (figAt na).2 (figAt na).1 (figAt na).2 (figAt nb).1 (figAt nb).2 W (figB_num (by omega)) (figB_num (by omega)) (figB_num (by omega)) (Int.le_refl _) (fig_ord nab)
        have I1 := fun W => iFirstReading_any s len pt eye W
        have S1 := fun W => sFirstReading_any s len pt eye W
        have I2 := fun W => iLastReading_any s len pt eye W
        have S2 := fun W => sLastReading_any s len pt eye W
        have I3 := fun W => iCountReadings_any s len pt eye W
        have S3 := fun W => sCountReadings_any s len pt eye W
        rw [e1] at I1 S1
        rw [e2] at I2 S2
        rw [e3] at I3 S3
        simp only [endFC] at I1 S1 I2 S2
        clear hr hp e1 e2 e3 nab nbb nf
        generalize (figAt na).1 = fa at *
        generalize (figAt na).2 = ft at *
        generalize (figAt nb).1 = la at *
        generalize (figAt nb).2 = lt at *
        go_wp2_with fail
        refine (I1 _).mono ?_
        rintro e w2 ⟨rfl, hb2⟩
        have B2 : Below w.heap.size w w2 := Below.trans (by repeat' (first | (with_reducible exact Below.refl _ _) | (with_reducible assumption) | (with_reducible refine Below.alloc ?_ ?_ _) | (with_reducible refine Below.drew ?_) | (with_reducible refine belowDraws ?_ _) | (with_reducible refine Below.setCell ?_ ?_ _) | omega | (simp; done) | (simp; omega))) (hb2.mono (by first | omega | (simp; done) | (simp; omega)))
        have hz2 := B2.size
        clear hb2
        go_wp2_with fail
        refine (S1 _).mono ?_
        rintro e w3 ⟨rfl, hb3⟩
        have hl3_0 : w2.heap.size < w3.heap.size := Nat.lt_of_lt_of_le (by first | omega | (simp; done) | (simp; omega)) hb3.size
        have q3_00 : w3.cell? ⟨w2.heap.size, 0, none⟩ = some (.int .i64 fa) := (by rw [hb3.cell (by first | omega | (simp; done) | (simp; omega))]; simp [go_sem, *])
        have q3_01 : w3.cell? ⟨w2.heap.size, 1, none⟩ = some (.int .i64 ft) := (by rw [hb3.cell (by first | omega | (simp; done) | (simp; omega))]; simp [go_sem, *])
        have B3 : Below w.heap.size w w3 := Below.trans (by repeat' (first | (with_reducible exact Below.refl _ _) | (with_reducible assumption) | (with_reducible refine Below.alloc ?_ ?_ _) | (with_reducible refine Below.drew ?_) | (with_reducible refine belowDraws ?_ _) | (with_reducible refine Below.setCell ?_ ?_ _) | omega | (simp; done) | (simp; omega))) (hb3.mono (by first | omega | (simp; done) | (simp; omega)))
        have hz3 := B3.size
        clear hb3
        go_wp2_with fail
        refine (I2 _).mono ?_
        rintro e w4 ⟨rfl, hb4⟩
        have hl4_0 : w2.heap.size < w4.heap.size := Nat.lt_of_lt_of_le (by first | omega | (simp; done) | (simp; omega)) hb4.size
        have q4_00 : w4.cell? ⟨w2.heap.size, 0, none⟩ = some (.int .i64 fa) := (by rw [hb4.cell (by first | omega | (simp; done) | (simp; omega))]; simp [go_sem, *])
        have q4_01 : w4.cell? ⟨w2.heap.size, 1, none⟩ = some (.int .i64 ft) := (by rw [hb4.cell (by first | omega | (simp; done) | (simp; omega))]; simp [go_sem, *])
        have hl4_1 : w3.heap.size < w4.heap.size := Nat.lt_of_lt_of_le (by first | omega | (simp; done) | (simp; omega)) hb4.size
        have q4_10 : w4.cell? ⟨w3.heap.size, 0, none⟩ = some (.int .i64 fa) := (by rw [hb4.cell (by first | omega | (simp; done) | (simp; omega))]; simp [go_sem, *])
        have q4_11 : w4.cell? ⟨w3.heap.size, 1, none⟩ = some (.int .i64 ft) := (by rw [hb4.cell (by first | omega | (simp; done) | (simp; omega))]; simp [go_sem, *])
        have B4 : Below w.heap.size w w4 := Below.trans (by repeat' (first | (with_reducible exact Below.refl _ _) | (with_reducible assumption) | (with_reducible refine Below.alloc ?_ ?_ _) | (with_reducible refine Below.drew ?_) | (with_reducible refine belowDraws ?_ _) | (with_reducible refine Below.setCell ?_ ?_ _) | omega | (simp; done) | (simp; omega))) (hb4.mono (by first | omega | (simp; done) | (simp; omega)))
        have hz4 := B4.size
        clear q3_00 q3_01 hl3_0
        clear hb4
        go_wp2_with fail
        refine (S2 _).mono ?_
        rintro e w5 ⟨rfl, hb5⟩
        have hl5_0 : w2.heap.size < w5.heap.size := Nat.lt_of_lt_of_le (by first | omega | (simp; done) | (simp; omega)) hb5.size
        have q5_00 : w5.cell? ⟨w2.heap.size, 0, none⟩ = some (.int .i64 fa) := (by rw [hb5.cell (by first | omega | (simp; done) | (simp; omega))]; simp [go_sem, *])
        have q5_01 : w5.cell? ⟨w2.heap.size, 1, none⟩ = some (.int .i64 ft) := (by rw [hb5.cell (by first | omega | (simp; done) | (simp; omega))]; simp [go_sem, *])
        have hl5_1 : w3.heap.size < w5.heap.size := Nat.lt_of_lt_of_le (by first | omega | (simp; done) | (simp; omega)) hb5.size
        have q5_10 : w5.cell? ⟨w3.heap.size, 0, none⟩ = some (.int .i64 fa) := (by rw [hb5.cell (by first | omega | (simp; done) | (simp; omega))]; simp [go_sem, *])
        have q5_11 : w5.cell? ⟨w3.heap.size, 1, none⟩ = some (.int .i64 ft) := (by rw [hb5.cell (by first | omega | (simp; done) | (simp; omega))]; simp [go_sem, *])
        have hl5_2 : w4.heap.size < w5.heap.size := Nat.lt_of_lt_of_le (by first | omega | (simp; done) | (simp; omega)) hb5.size
        have q5_20 : w5.cell? ⟨w4.heap.size, 0, none⟩ = some (.int .i64 la) := (by rw [hb5.cell (by first | omega | (simp; done) | (simp; omega))]; simp [go_sem, *])
        have q5_21 : w5.cell? ⟨w4.heap.size, 1, none⟩ = some (.int .i64 lt) := (by rw [hb5.cell (by first | omega | (simp; done) | (simp; omega))]; simp [go_sem, *])
        have B5 : Below w.heap.size w w5 := Below.trans (by repeat' (first | (with_reducible exact Below.refl _ _) | (with_reducible assumption) | (with_reducible refine Below.alloc ?_ ?_ _) | (with_reducible refine Below.drew ?_) | (with_reducible refine belowDraws ?_ _) | (with_reducible refine Below.setCell ?_ ?_ _) | omega | (simp; done) | (simp; omega))) (hb5.mono (by first | omega | (simp; done) | (simp; omega)))
        have hz5 := B5.size
        clear q4_00 q4_01 q4_10 q4_11 hl4_0 hl4_1
        clear hb5
        go_wp2_with fail
        refine (I3 _).mono ?_
        rintro e w6 ⟨rfl, hb6⟩
        have hl6_0 : w2.heap.size < w6.heap.size := Nat.lt_of_lt_of_le (by first | omega | (simp; done) | (simp; omega)) hb6.size
        have q6_00 : w6.cell? ⟨w2.heap.size, 0, none⟩ = some (.int .i64 fa) := (by rw [hb6.cell (by first | omega | (simp; done) | (simp; omega))]; simp [go_sem, *])
        have q6_01 : w6.cell? ⟨w2.heap.size, 1, none⟩ = some (.int .i64 ft) := (by rw [hb6.cell (by first | omega | (simp; done) | (simp; omega))]; simp [go_sem, *])
        have hl6_1 : w3.heap.size < w6.heap.size := Nat.lt_of_lt_of_le (by first | omega | (simp; done) | (simp; omega)) hb6.size
        have q6_10 : w6.cell? ⟨w3.heap.size, 0, none⟩ = some (.int .i64 fa) := (by rw [hb6.cell (by first | omega | (simp; done) | (simp; omega))]; simp [go_sem, *])
        have q6_11 : w6.cell? ⟨w3.heap.size, 1, none⟩ = some (.int .i64 ft) := (by rw [hb6.cell (by first | omega | (simp; done) | (simp; omega))]; simp [go_sem, *])
        have hl6_2 : w4.heap.size < w6.heap.size := Nat.lt_of_lt_of_le (by first | omega | (simp; done) | (simp; omega)) hb6.size
        have q6_20 : w6.cell? ⟨w4.heap.size, 0, none⟩ = some (.int .i64 la) := (by rw [hb6.cell (by first | omega | (simp; done) | (simp; omega))]; simp [go_sem, *])
        have q6_21 : w6.cell? ⟨w4.heap.size, 1, none⟩ = some (.int .i64 lt) := (by rw [hb6.cell (by first | omega | (simp; done) | (simp; omega))]; simp [go_sem, *])
        have hl6_3 : w5.heap.size < w6.heap.size := Nat.lt_of_lt_of_le (by first | omega | (simp; done) | (simp; omega)) hb6.size
        have q6_30 : w6.cell? ⟨w5.heap.size, 0, none⟩ = some (.int .i64 la) := (by rw [hb6.cell (by first | omega | (simp; done) | (simp; omega))]; simp [go_sem, *])
        have q6_31 : w6.cell? ⟨w5.heap.size, 1, none⟩ = some (.int .i64 lt) := (by rw [hb6.cell (by first | omega | (simp; done) | (simp; omega))]; simp [go_sem, *])
        have B6 : Below w.heap.size w w6 := Below.trans (by repeat' (first | (with_reducible exact Below.refl _ _) | (with_reducible assumption) | (with_reducible refine Below.alloc ?_ ?_ _) | (with_reducible refine Below.drew ?_) | (with_reducible refine belowDraws ?_ _) | (with_reducible refine Below.setCell ?_ ?_ _) | omega | (simp; done) | (simp; omega))) (hb6.mono (by first | omega | (simp; done) | (simp; omega)))
        have hz6 := B6.size
        clear q5_00 q5_01 q5_10 q5_11 q5_20 q5_21 hl5_0 hl5_1 hl5_2
        clear hb6
        go_wp2_with fail
        refine (S3 _).mono ?_
        rintro e w7 ⟨rfl, hb7⟩
        have hl7_0 : w2.heap.size < w7.heap.size := Nat.lt_of_lt_of_le (by first | omega | (simp; done) | (simp; omega)) hb7.size
        have q7_00 : w7.cell? ⟨w2.heap.size, 0, none⟩ = some (.int .i64 fa) := (by rw [hb7.cell (by first | omega | (simp; done) | (simp; omega))]; simp [go_sem, *])
        have q7_01 : w7.cell? ⟨w2.heap.size, 1, none⟩ = some (.int .i64 ft) := (by rw [hb7.cell (by first | omega | (simp; done) | (simp; omega))]; simp [go_sem, *])
        have hl7_1 : w3.heap.size < w7.heap.size := Nat.lt_of_lt_of_le (by first | omega | (simp; done) | (simp; omega)) hb7.size
        have q7_10 : w7.cell? ⟨w3.heap.size, 0, none⟩ = some (.int .i64 fa) := (by rw [hb7.cell (by first | omega | (simp; done) | (simp; omega))]; simp [go_sem, *])
        have q7_11 : w7.cell? ⟨w3.heap.size, 1, none⟩ = some (.int .i64 ft) := (by rw [hb7.cell (by first | omega | (simp; done) | (simp; omega))]; simp [go_sem, *])
        have hl7_2 : w4.heap.size < w7.heap.size := Nat.lt_of_lt_of_le (by first | omega | (simp; done) | (simp; omega)) hb7.size
        have q7_20 : w7.cell? ⟨w4.heap.size, 0, none⟩ = some (.int .i64 la) := (by rw [hb7.cell (by first | omega | (simp; done) | (simp; omega))]; simp [go_sem, *])
        have q7_21 : w7.cell? ⟨w4.heap.size, 1, none⟩ = some (.int .i64 lt) := (by rw [hb7.cell (by first | omega | (simp; done) | (simp; omega))]; simp [go_sem, *])
        have hl7_3 : w5.heap.size < w7.heap.size := Nat.lt_of_lt_of_le (by first | omega | (simp; done) | (simp; omega)) hb7.size
        have q7_30 : w7.cell? ⟨w5.heap.size, 0, none⟩ = some (.int .i64 la) := (by rw [hb7.cell (by first | omega | (simp; done) | (simp; omega))]; simp [go_sem, *])
        have q7_31 : w7.cell? ⟨w5.heap.size, 1, none⟩ = some (.int .i64 lt) := (by rw [hb7.cell (by first | omega | (simp; done) | (simp; omega))]; simp [go_sem, *])
        have B7 : Below w.heap.size w w7 := Below.trans (by repeat' (first | (with_reducible exact Below.refl _ _) | (with_reducible assumption) | (with_reducible refine Below.alloc ?_ ?_ _) | (with_reducible refine Below.drew ?_) | (with_reducible refine belowDraws ?_ _) | (with_reducible refine Below.setCell ?_ ?_ _) | omega | (simp; done) | (simp; omega))) (hb7.mono (by first | omega | (simp; done) | (simp; omega)))
        have hz7 := B7.size
        clear q6_00 q6_01 q6_10 q6_11 q6_20 q6_21 q6_30 q6_31 hl6_0 hl6_1 hl6_2 hl6_3
        clear hb7
        clear I1 S1 I2 S2 I3 S3
        go_wp2_with fail
        refine (iDecadesOf_ok s _ s1 s2).mono ?_
        rintro e w8 ⟨rfl, hb8⟩
        have hl8_0 : w2.heap.size < w8.heap.size := Nat.lt_of_lt_of_le (by first | omega | (simp; done) | (simp; omega)) hb8.size
        have q8_00 : w8.cell? ⟨w2.heap.size, 0, none⟩ = some (.int .i64 fa) := (by rw [hb8.cell (by first | omega | (simp; done) | (simp; omega))]; simp [go_sem, *])
        have q8_01 : w8.cell? ⟨w2.heap.size, 1, none⟩ = some (.int .i64 ft) := (by rw [hb8.cell (by first | omega | (simp; done) | (simp; omega))]; simp [go_sem, *])
        have hl8_1 : w3.heap.size < w8.heap.size := Nat.lt_of_lt_of_le (by first | omega | (simp; done) | (simp; omega)) hb8.size
        have q8_10 : w8.cell? ⟨w3.heap.size, 0, none⟩ = some (.int .i64 fa) := (by rw [hb8.cell (by first | omega | (simp; done) | (simp; omega))]; simp [go_sem, *])
        have q8_11 : w8.cell? ⟨w3.heap.size, 1, none⟩ = some (.int .i64 ft) := (by rw [hb8.cell (by first | omega | (simp; done) | (simp; omega))]; simp [go_sem, *])
        have hl8_2 : w4.heap.size < w8.heap.size := Nat.lt_of_lt_of_le (by first | omega | (simp; done) | (simp; omega)) hb8.size
        have q8_20 : w8.cell? ⟨w4.heap.size, 0, none⟩ = some (.int .i64 la) := (by rw [hb8.cell (by first | omega | (simp; done) | (simp; omega))]; simp [go_sem, *])
        have q8_21 : w8.cell? ⟨w4.heap.size, 1, none⟩ = some (.int .i64 lt) := (by rw [hb8.cell (by first | omega | (simp; done) | (simp; omega))]; simp [go_sem, *])
        have hl8_3 : w5.heap.size < w8.heap.size := Nat.lt_of_lt_of_le (by first | omega | (simp; done) | (simp; omega)) hb8.size
        have q8_30 : w8.cell? ⟨w5.heap.size, 0, none⟩ = some (.int .i64 la) := (by rw [hb8.cell (by first | omega | (simp; done) | (simp; omega))]; simp [go_sem, *])
        have q8_31 : w8.cell? ⟨w5.heap.size, 1, none⟩ = some (.int .i64 lt) := (by rw [hb8.cell (by first | omega | (simp; done) | (simp; omega))]; simp [go_sem, *])
        have B8 : Below w.heap.size w w8 := Below.trans (by repeat' (first | (with_reducible exact Below.refl _ _) | (with_reducible assumption) | (with_reducible refine Below.alloc ?_ ?_ _) | (with_reducible refine Below.drew ?_) | (with_reducible refine belowDraws ?_ _) | (with_reducible refine Below.setCell ?_ ?_ _) | omega | (simp; done) | (simp; omega))) (hb8.mono (by first | omega | (simp; done) | (simp; omega)))
        have hz8 := B8.size
        clear q7_00 q7_01 q7_10 q7_11 q7_20 q7_21 q7_30 q7_31 hl7_0 hl7_1 hl7_2 hl7_3
        clear hb8
        obtain ⟨dcs, hdcs⟩ : ∃ x, decades s = x := ⟨_, rfl⟩
        have hd1 := decades_bd s
        rw [hdcs] at hd1 ⊢
        have nl_0 := hl8_0
        have nl_1 := hl8_1
        have nl_2 := hl8_2
        have nl_3 := hl8_3
        go_wp2_with fail
        refine (roll_any A n c l 601 _ hl hn h8 ?_).mono ?_
        · first | exact hs | exact (hs.over (by repeat' (first | (with_reducible exact Below.refl _ _) | (with_reducible assumption) | (with_reducible refine Below.alloc ?_ ?_ _) | (with_reducible refine Below.drew ?_) | (with_reducible refine belowDraws ?_ _) | (with_reducible refine Below.setCell ?_ ?_ _) | omega | (simp; done) | (simp; omega)))).wider (by first | omega | (simp; done) | (simp; omega))
        rintro e w9 ⟨bd, rfl, hbd, SD, hb9⟩
        have hl9_0 : w2.heap.size < w9.heap.size := Nat.lt_of_lt_of_le (by first | omega | (simp; done) | (simp; omega)) hb9.size
        have q9_00 : w9.cell? ⟨w2.heap.size, 0, none⟩ = some (.int .i64 fa) := (by rw [hb9.cell (by first | omega | (simp; done) | (simp; omega))]; simp [go_sem, *])
        have q9_01 : w9.cell? ⟨w2.heap.size, 1, none⟩ = some (.int .i64 ft) := (by rw [hb9.cell (by first | omega | (simp; done) | (simp; omega))]; simp [go_sem, *])
        have hl9_1 : w3.heap.size < w9.heap.size := Nat.lt_of_lt_of_le (by first | omega | (simp; done) | (simp; omega)) hb9.size
        have q9_10 : w9.cell? ⟨w3.heap.size, 0, none⟩ = some (.int .i64 fa) := (by rw [hb9.cell (by first | omega | (simp; done) | (simp; omega))]; simp [go_sem, *])
        have q9_11 : w9.cell? ⟨w3.heap.size, 1, none⟩ = some (.int .i64 ft) := (by rw [hb9.cell (by first | omega | (simp; done) | (simp; omega))]; simp [go_sem, *])
        have hl9_2 : w4.heap.size < w9.heap.size := Nat.lt_of_lt_of_le (by first | omega | (simp; done) | (simp; omega)) hb9.size
        have q9_20 : w9.cell? ⟨w4.heap.size, 0, none⟩ = some (.int .i64 la) := (by rw [hb9.cell (by first | omega | (simp; done) | (simp; omega))]; simp [go_sem, *])
        have q9_21 : w9.cell? ⟨w4.heap.size, 1, none⟩ = some (.int .i64 lt) := (by rw [hb9.cell (by first | omega | (simp; done) | (simp; omega))]; simp [go_sem, *])
        have hl9_3 : w5.heap.size < w9.heap.size := Nat.lt_of_lt_of_le (by first | omega | (simp; done) | (simp; omega)) hb9.size
        have q9_30 : w9.cell? ⟨w5.heap.size, 0, none⟩ = some (.int .i64 la) := (by rw [hb9.cell (by first | omega | (simp; done) | (simp; omega))]; simp [go_sem, *])
        have q9_31 : w9.cell? ⟨w5.heap.size, 1, none⟩ = some (.int .i64 lt) := (by rw [hb9.cell (by first | omega | (simp; done) | (simp; omega))]; simp [go_sem, *])
        have B9 : Below w.heap.size w w9 := Below.trans (by repeat' (first | (with_reducible exact Below.refl _ _) | (with_reducible assumption) | (with_reducible refine Below.alloc ?_ ?_ _) | (with_reducible refine Below.drew ?_) | (with_reducible refine belowDraws ?_ _) | (with_reducible refine Below.setCell ?_ ?_ _) | omega | (simp; done) | (simp; omega))) (hb9.mono (by first | omega | (simp; done) | (simp; omega)))
        have hz9 := B9.size
        clear q8_00 q8_01 q8_10 q8_11 q8_20 q8_21 q8_30 q8_31 hl8_0 hl8_1 hl8_2 hl8_3
        clear hb9
        have nd_0 : w2.heap.size ≠ bd := by first | omega | (simp at hbd; omega)
        have nd_1 : w3.heap.size ≠ bd := by first | omega | (simp at hbd; omega)
        have nd_2 : w4.heap.size ≠ bd := by first | omega | (simp at hbd; omega)
        have nd_3 : w5.heap.size ≠ bd := by first | omega | (simp at hbd; omega)
        clear nl_0 nl_1 nl_2 nl_3
        have hbw : w.heap.size ≤ bd := by first | omega | (simp at hbd; omega)
        clear hbd
        have S9 := SD
        have y9 := S9.inside
        clear SD
        go_wp2_with fail
        refine (below_any 900 bd A n c l _ hl hn h8 (by repeat' (first | (with_reducible assumption) | (with_reducible refine Dice.alloc ?_ _) | (with_reducible refine Dice.drew ?_) | (with_reducible refine Dice.drewN ?_ _) | (with_reducible refine Dice.set ?_ ?_ _) | (first | omega | (simp; done) | (simp; omega)))) (by omega)).mono ?_
        rintro e w10 ⟨v, rfl, lo10, hi10, S10, g10⟩
        have hl10_0 : w2.heap.size < w10.heap.size := Nat.lt_of_lt_of_le (by first | omega | (simp; done) | (simp; omega)) g10.size
        have q10_00 : w10.cell? ⟨w2.heap.size, 0, none⟩ = some (.int .i64 fa) := (by rw [gCell g10 (by first | omega | (simp; done) | (simp; omega)) (by first | omega | (simp; done) | (simp; omega))]; simp [go_sem, *])
        have q10_01 : w10.cell? ⟨w2.heap.size, 1, none⟩ = some (.int .i64 ft) := (by rw [gCell g10 (by first | omega | (simp; done) | (simp; omega)) (by first | omega | (simp; done) | (simp; omega))]; simp [go_sem, *])
        have hl10_1 : w3.heap.size < w10.heap.size := Nat.lt_of_lt_of_le (by first | omega | (simp; done) | (simp; omega)) g10.size
        have q10_10 : w10.cell? ⟨w3.heap.size, 0, none⟩ = some (.int .i64 fa) := (by rw [gCell g10 (by first | omega | (simp; done) | (simp; omega)) (by first | omega | (simp; done) | (simp; omega))]; simp [go_sem, *])
        have q10_11 : w10.cell? ⟨w3.heap.size, 1, none⟩ = some (.int .i64 ft) := (by rw [gCell g10 (by first | omega | (simp; done) | (simp; omega)) (by first | omega | (simp; done) | (simp; omega))]; simp [go_sem, *])
        have hl10_2 : w4.heap.size < w10.heap.size := Nat.lt_of_lt_of_le (by first | omega | (simp; done) | (simp; omega)) g10.size
        have q10_20 : w10.cell? ⟨w4.heap.size, 0, none⟩ = some (.int .i64 la) := (by rw [gCell g10 (by first | omega | (simp; done) | (simp; omega)) (by first | omega | (simp; done) | (simp; omega))]; simp [go_sem, *])
        have q10_21 : w10.cell? ⟨w4.heap.size, 1, none⟩ = some (.int .i64 lt) := (by rw [gCell g10 (by first | omega | (simp; done) | (simp; omega)) (by first | omega | (simp; done) | (simp; omega))]; simp [go_sem, *])
        have hl10_3 : w5.heap.size < w10.heap.size := Nat.lt_of_lt_of_le (by first | omega | (simp; done) | (simp; omega)) g10.size
        have q10_30 : w10.cell? ⟨w5.heap.size, 0, none⟩ = some (.int .i64 la) := (by rw [gCell g10 (by first | omega | (simp; done) | (simp; omega)) (by first | omega | (simp; done) | (simp; omega))]; simp [go_sem, *])
        have q10_31 : w10.cell? ⟨w5.heap.size, 1, none⟩ = some (.int .i64 lt) := (by rw [gCell g10 (by first | omega | (simp; done) | (simp; omega)) (by first | omega | (simp; done) | (simp; omega))]; simp [go_sem, *])
        have B10 : Below w.heap.size w w10 := Below.trans (by repeat' (first | (with_reducible exact Below.refl _ _) | (with_reducible assumption) | (with_reducible refine Below.alloc ?_ ?_ _) | (with_reducible refine Below.drew ?_) | (with_reducible refine belowDraws ?_ _) | (with_reducible refine Below.setCell ?_ ?_ _) | omega | (simp; done) | (simp; omega))) (gBelow g10 hbw (by first | omega | (simp; done) | (simp; omega)))
        have hz10 := B10.size
        have y10 := S10.inside
        clear q9_00 q9_01 q9_10 q9_11 q9_20 q9_21 q9_30 q9_31 hl9_0 hl9_1 hl9_2 hl9_3
        clear g10
        go_wp2_with fail
        refine (below_any dcs bd A n c l _ hl hn h8 (by repeat' (first | (with_reducible assumption) | (with_reducible refine Dice.alloc ?_ _) | (with_reducible refine Dice.drew ?_) | (with_reducible refine Dice.drewN ?_ _) | (with_reducible refine Dice.set ?_ ?_ _) | (first | omega | (simp; done) | (simp; omega)))) (by omega)).mono ?_
        rintro e w11 ⟨t, rfl, lo11, hi11, S11, g11⟩
        have hl11_0 : w2.heap.size < w11.heap.size := Nat.lt_of_lt_of_le (by first | omega | (simp; done) | (simp; omega)) g11.size
        have q11_00 : w11.cell? ⟨w2.heap.size, 0, none⟩ = some (.int .i64 fa) := (by rw [gCell g11 (by first | omega | (simp; done) | (simp; omega)) (by first | omega | (simp; done) | (simp; omega))]; simp [go_sem, *])
        have q11_01 : w11.cell? ⟨w2.heap.size, 1, none⟩ = some (.int .i64 ft) := (by rw [gCell g11 (by first | omega | (simp; done) | (simp; omega)) (by first | omega | (simp; done) | (simp; omega))]; simp [go_sem, *])
        have hl11_1 : w3.heap.size < w11.heap.size := Nat.lt_of_lt_of_le (by first | omega | (simp; done) | (simp; omega)) g11.size
        have q11_10 : w11.cell? ⟨w3.heap.size, 0, none⟩ = some (.int .i64 fa) := (by rw [gCell g11 (by first | omega | (simp; done) | (simp; omega)) (by first | omega | (simp; done) | (simp; omega))]; simp [go_sem, *])
        have q11_11 : w11.cell? ⟨w3.heap.size, 1, none⟩ = some (.int .i64 ft) := (by rw [gCell g11 (by first | omega | (simp; done) | (simp; omega)) (by first | omega | (simp; done) | (simp; omega))]; simp [go_sem, *])
        have hl11_2 : w4.heap.size < w11.heap.size := Nat.lt_of_lt_of_le (by first | omega | (simp; done) | (simp; omega)) g11.size
        have q11_20 : w11.cell? ⟨w4.heap.size, 0, none⟩ = some (.int .i64 la) := (by rw [gCell g11 (by first | omega | (simp; done) | (simp; omega)) (by first | omega | (simp; done) | (simp; omega))]; simp [go_sem, *])
        have q11_21 : w11.cell? ⟨w4.heap.size, 1, none⟩ = some (.int .i64 lt) := (by rw [gCell g11 (by first | omega | (simp; done) | (simp; omega)) (by first | omega | (simp; done) | (simp; omega))]; simp [go_sem, *])
        have hl11_3 : w5.heap.size < w11.heap.size := Nat.lt_of_lt_of_le (by first | omega | (simp; done) | (simp; omega)) g11.size
        have q11_30 : w11.cell? ⟨w5.heap.size, 0, none⟩ = some (.int .i64 la) := (by rw [gCell g11 (by first | omega | (simp; done) | (simp; omega)) (by first | omega | (simp; done) | (simp; omega))]; simp [go_sem, *])
        have q11_31 : w11.cell? ⟨w5.heap.size, 1, none⟩ = some (.int .i64 lt) := (by rw [gCell g11 (by first | omega | (simp; done) | (simp; omega)) (by first | omega | (simp; done) | (simp; omega))]; simp [go_sem, *])
        have B11 : Below w.heap.size w w11 := Below.trans (by repeat' (first | (with_reducible exact Below.refl _ _) | (with_reducible assumption) | (with_reducible refine Below.alloc ?_ ?_ _) | (with_reducible refine Below.drew ?_) | (with_reducible refine belowDraws ?_ _) | (with_reducible refine Below.setCell ?_ ?_ _) | omega | (simp; done) | (simp; omega))) (gBelow g11 hbw (by first | omega | (simp; done) | (simp; omega)))
        have hz11 := B11.size
        have y11 := S11.inside
        clear q10_00 q10_01 q10_10 q10_11 q10_20 q10_21 q10_30 q10_31 hl10_0 hl10_1 hl10_2 hl10_3
        clear g11
        have hD : Dig (1000 + 10 * v) := by unfold Dig; omega
        have hck := ckPlace_fits (s := s) (len := len) hD ⟨s1, s2⟩ lo11 (by omega) ⟨l1, l2⟩
        have hfB : figB (1000 + 10 * v) t = true := figB_iff.2 ⟨hD, by omega, by omega⟩
        have HO := Lib.hid (fun (at_ : Int) => own_reads (s := s) (len := len) (pt := at_) (eye := eye) (v := v) (t := t) lo10 hi10 lo11 (by omega))
        have HM := Lib.hid (may_own (s := s) (len := len) (eye := eye) (t := t) hD l1 l2 y1)
        have PL := fun W => iPlaceOf_fit s (1000 + 10 * v) t len W hD ⟨by omega, by omega⟩ l1 l2 hck.2
        have bp := pl_bd (s := s) (t := t) hD l1 l2
        have MB := fun (at_ : Int) (h : 0 ≤ at_ ∧ at_ ≤ len) W => iMayBeAt_any s (1000 + 10 * v) t len at_ eye W
        have HR := Lib.hid (fun (at_ : Int) (h : 0 ≤ at_ ∧ at_ ≤ len) => rMay_fit (pt := at_) (eye := eye) hfB (ptB_iff.2 ⟨⟨s1, s2⟩, ⟨l1, l2⟩, h, y1, y2⟩) hck.1)
        have HC := Lib.hid (fun (at_ : Int) (h : 0 ≤ at_ ∧ at_ ≤ len) => rCountR_in (eye := eye) (ptB_iff.2 ⟨⟨s1, s2⟩, ⟨l1, l2⟩, h, y1, y2⟩))
        clear MB hfB hck hD hdcs
        obtain ⟨pl, hpl⟩ : ∃ x, plL s (1000 + 10 * v) t len = x := ⟨_, rfl⟩
        obtain ⟨pu, hpu⟩ : ∃ x, plU s (1000 + 10 * v) t len = x := ⟨_, rfl⟩
        rw [hpl, hpu] at PL bp
        rw [hpl] at HM
        clear hpl hpu
        go_wp2_with fail
        refine (PL _).mono ?_
        rintro e w12 ⟨rfl, hb12⟩
        have hl12_0 : w2.heap.size < w12.heap.size := Nat.lt_of_lt_of_le (by first | omega | (simp; done) | (simp; omega)) hb12.size
        have q12_00 : w12.cell? ⟨w2.heap.size, 0, none⟩ = some (.int .i64 fa) := (by rw [hb12.cell (by first | omega | (simp; done) | (simp; omega))]; simp [go_sem, *])
        have q12_01 : w12.cell? ⟨w2.heap.size, 1, none⟩ = some (.int .i64 ft) := (by rw [hb12.cell (by first | omega | (simp; done) | (simp; omega))]; simp [go_sem, *])
        have hl12_1 : w3.heap.size < w12.heap.size := Nat.lt_of_lt_of_le (by first | omega | (simp; done) | (simp; omega)) hb12.size
        have q12_10 : w12.cell? ⟨w3.heap.size, 0, none⟩ = some (.int .i64 fa) := (by rw [hb12.cell (by first | omega | (simp; done) | (simp; omega))]; simp [go_sem, *])
        have q12_11 : w12.cell? ⟨w3.heap.size, 1, none⟩ = some (.int .i64 ft) := (by rw [hb12.cell (by first | omega | (simp; done) | (simp; omega))]; simp [go_sem, *])
        have hl12_2 : w4.heap.size < w12.heap.size := Nat.lt_of_lt_of_le (by first | omega | (simp; done) | (simp; omega)) hb12.size
        have q12_20 : w12.cell? ⟨w4.heap.size, 0, none⟩ = some (.int .i64 la) := (by rw [hb12.cell (by first | omega | (simp; done) | (simp; omega))]; simp [go_sem, *])
        have q12_21 : w12.cell? ⟨w4.heap.size, 1, none⟩ = some (.int .i64 lt) := (by rw [hb12.cell (by first | omega | (simp; done) | (simp; omega))]; simp [go_sem, *])
        have hl12_3 : w5.heap.size < w12.heap.size := Nat.lt_of_lt_of_le (by first | omega | (simp; done) | (simp; omega)) hb12.size
        have q12_30 : w12.cell? ⟨w5.heap.size, 0, none⟩ = some (.int .i64 la) := (by rw [hb12.cell (by first | omega | (simp; done) | (simp; omega))]; simp [go_sem, *])
        have q12_31 : w12.cell? ⟨w5.heap.size, 1, none⟩ = some (.int .i64 lt) := (by rw [hb12.cell (by first | omega | (simp; done) | (simp; omega))]; simp [go_sem, *])
        have hl12_4 : w11.heap.size < w12.heap.size := Nat.lt_of_lt_of_le (by first | omega | (simp; done) | (simp; omega)) hb12.size
        have q12_40 : w12.cell? ⟨w11.heap.size, 0, none⟩ = some (.int .i64 (1000 + 10 * v)) := (by rw [hb12.cell (by first | omega | (simp; done) | (simp; omega))]; simp [go_sem, *])
        have q12_41 : w12.cell? ⟨w11.heap.size, 1, none⟩ = some (.int .i64 t) := (by rw [hb12.cell (by first | omega | (simp; done) | (simp; omega))]; simp [go_sem, *])
        have B12 : Below w.heap.size w w12 := Below.trans (by repeat' (first | (with_reducible exact Below.refl _ _) | (with_reducible assumption) | (with_reducible refine Below.alloc ?_ ?_ _) | (with_reducible refine Below.drew ?_) | (with_reducible refine belowDraws ?_ _) | (with_reducible refine Below.setCell ?_ ?_ _) | omega | (simp; done) | (simp; omega))) (hb12.mono (by first | omega | (simp; done) | (simp; omega)))
        have hz12 := B12.size
        have S12 : Dice w12 bd A n c l := Dice.over (by repeat' (first | (with_reducible assumption) | (with_reducible refine Dice.alloc ?_ _) | (with_reducible refine Dice.drew ?_) | (with_reducible refine Dice.drewN ?_ _) | (with_reducible refine Dice.set ?_ ?_ _) | (first | omega | (simp; done) | (simp; omega)))) hb12
        have y12 := S12.inside
        clear q11_00 q11_01 q11_10 q11_11 q11_20 q11_21 q11_30 q11_31 hl11_0 hl11_1 hl11_2 hl11_3
        clear hb12
        clear PL
        rcases (show pl < 0 ∨ pl = 0 ∨ (0 < pl ∧ pl < len) ∨ pl = len ∨ len < pl by omega) with hc | rfl | ⟨hc, hc2⟩ | rfl | hc
        · have ha : (0 : Int) ≤ 0 ∧ 0 ≤ len := by omega
          have MB := fun W => iMayBeAt_any s (1000 + 10 * v) t len (0) eye W
          have CB := fun W => iCountReadings_any s len (0) eye W
          have ho := HO.out (0)
          rw [HR.out (0) ha] at MB
          rw [HC.out (0) ha] at CB
          obtain ⟨ow, how⟩ : ∃ x : Nat, (reads s len (0) eye).length = x := ⟨_, rfl⟩
          have hw := reads_le s len (0) eye
          rw [how] at CB ho hw
          clear HO HR HC HM how ha
          have hne : ¬ (0) = pl := by omega
          obtain ⟨ok, hok⟩ : ∃ x, mayB s (1000 + 10 * v) t len (0) eye = x := ⟨_, rfl⟩
          rw [hok] at MB ho
          clear hok
          simp only at MB
          cases ok with
          | true =>
            have ho1 := ho rfl
            clear ho
            go_wp2_with fail
            refine (MB _).mono ?_
            rintro e w13 ⟨rfl, hb13⟩
            have hl13_0 : w2.heap.size < w13.heap.size := Nat.lt_of_lt_of_le (by first | omega | (simp; done) | (simp; omega)) hb13.size
            have q13_00 : w13.cell? ⟨w2.heap.size, 0, none⟩ = some (.int .i64 fa) := (by rw [hb13.cell (by first | omega | (simp; done) | (simp; omega))]; simp [go_sem, *])
            have q13_01 : w13.cell? ⟨w2.heap.size, 1, none⟩ = some (.int .i64 ft) := (by rw [hb13.cell (by first | omega | (simp; done) | (simp; omega))]; simp [go_sem, *])
            have hl13_1 : w3.heap.size < w13.heap.size := Nat.lt_of_lt_of_le (by first | omega | (simp; done) | (simp; omega)) hb13.size
            have q13_10 : w13.cell? ⟨w3.heap.size, 0, none⟩ = some (.int .i64 fa) := (by rw [hb13.cell (by first | omega | (simp; done) | (simp; omega))]; simp [go_sem, *])
            have q13_11 : w13.cell? ⟨w3.heap.size, 1, none⟩ = some (.int .i64 ft) := (by rw [hb13.cell (by first | omega | (simp; done) | (simp; omega))]; simp [go_sem, *])
            have hl13_2 : w4.heap.size < w13.heap.size := Nat.lt_of_lt_of_le (by first | omega | (simp; done) | (simp; omega)) hb13.size
            have q13_20 : w13.cell? ⟨w4.heap.size, 0, none⟩ = some (.int .i64 la) := (by rw [hb13.cell (by first | omega | (simp; done) | (simp; omega))]; simp [go_sem, *])
            have q13_21 : w13.cell? ⟨w4.heap.size, 1, none⟩ = some (.int .i64 lt) := (by rw [hb13.cell (by first | omega | (simp; done) | (simp; omega))]; simp [go_sem, *])
            have hl13_3 : w5.heap.size < w13.heap.size := Nat.lt_of_lt_of_le (by first | omega | (simp; done) | (simp; omega)) hb13.size
            have q13_30 : w13.cell? ⟨w5.heap.size, 0, none⟩ = some (.int .i64 la) := (by rw [hb13.cell (by first | omega | (simp; done) | (simp; omega))]; simp [go_sem, *])
            have q13_31 : w13.cell? ⟨w5.heap.size, 1, none⟩ = some (.int .i64 lt) := (by rw [hb13.cell (by first | omega | (simp; done) | (simp; omega))]; simp [go_sem, *])
            have hl13_4 : w11.heap.size < w13.heap.size := Nat.lt_of_lt_of_le (by first | omega | (simp; done) | (simp; omega)) hb13.size
            have q13_40 : w13.cell? ⟨w11.heap.size, 0, none⟩ = some (.int .i64 (1000 + 10 * v)) := (by rw [hb13.cell (by first | omega | (simp; done) | (simp; omega))]; simp [go_sem, *])
            have q13_41 : w13.cell? ⟨w11.heap.size, 1, none⟩ = some (.int .i64 t) := (by rw [hb13.cell (by first | omega | (simp; done) | (simp; omega))]; simp [go_sem, *])
            have hl13_5 : w12.heap.size < w13.heap.size := Nat.lt_of_lt_of_le (by first | omega | (simp; done) | (simp; omega)) hb13.size
            have q13_50 : w13.cell? ⟨w12.heap.size, 0, none⟩ = some (.int .i64 pl) := (by rw [hb13.cell (by first | omega | (simp; done) | (simp; omega))]; simp [go_sem, *])
            have q13_51 : w13.cell? ⟨w12.heap.size, 1, none⟩ = some (.int .i64 pu) := (by rw [hb13.cell (by first | omega | (simp; done) | (simp; omega))]; simp [go_sem, *])
            have B13 : Below w.heap.size w w13 := Below.trans (by repeat' (first | (with_reducible exact Below.refl _ _) | (with_reducible assumption) | (with_reducible refine Below.alloc ?_ ?_ _) | (with_reducible refine Below.drew ?_) | (with_reducible refine belowDraws ?_ _) | (with_reducible refine Below.setCell ?_ ?_ _) | omega | (simp; done) | (simp; omega))) (hb13.mono (by first | omega | (simp; done) | (simp; omega)))
            have hz13 := B13.size
            have S13 : Dice w13 bd A n c l := Dice.over (by repeat' (first | (with_reducible assumption) | (with_reducible refine Dice.alloc ?_ _) | (with_reducible refine Dice.drew ?_) | (with_reducible refine Dice.drewN ?_ _) | (with_reducible refine Dice.set ?_ ?_ _) | (first | omega | (simp; done) | (simp; omega)))) hb13
            have y13 := S13.inside
            clear q12_00 q12_01 q12_10 q12_11 q12_20 q12_21 q12_30 q12_31 q12_40 q12_41 hl12_0 hl12_1 hl12_2 hl12_3 hl12_4
            clear hb13
            go_wp2_with fail
            refine (CB _).mono ?_
            rintro e w14 ⟨rfl, hb14⟩
            have hl14_0 : w2.heap.size < w14.heap.size := Nat.lt_of_lt_of_le (by first | omega | (simp; done) | (simp; omega)) hb14.size
            have q14_00 : w14.cell? ⟨w2.heap.size, 0, none⟩ = some (.int .i64 fa) := (by rw [hb14.cell (by first | omega | (simp; done) | (simp; omega))]; simp [go_sem, *])
            have q14_01 : w14.cell? ⟨w2.heap.size, 1, none⟩ = some (.int .i64 ft) := (by rw [hb14.cell (by first | omega | (simp; done) | (simp; omega))]; simp [go_sem, *])
            have hl14_1 : w3.heap.size < w14.heap.size := Nat.lt_of_lt_of_le (by first | omega | (simp; done) | (simp; omega)) hb14.size
            have q14_10 : w14.cell? ⟨w3.heap.size, 0, none⟩ = some (.int .i64 fa) := (by rw [hb14.cell (by first | omega | (simp; done) | (simp; omega))]; simp [go_sem, *])
            have q14_11 : w14.cell? ⟨w3.heap.size, 1, none⟩ = some (.int .i64 ft) := (by rw [hb14.cell (by first | omega | (simp; done) | (simp; omega))]; simp [go_sem, *])
            have hl14_2 : w4.heap.size < w14.heap.size := Nat.lt_of_lt_of_le (by first | omega | (simp; done) | (simp; omega)) hb14.size
            have q14_20 : w14.cell? ⟨w4.heap.size, 0, none⟩ = some (.int .i64 la) := (by rw [hb14.cell (by first | omega | (simp; done) | (simp; omega))]; simp [go_sem, *])
            have q14_21 : w14.cell? ⟨w4.heap.size, 1, none⟩ = some (.int .i64 lt) := (by rw [hb14.cell (by first | omega | (simp; done) | (simp; omega))]; simp [go_sem, *])
            have hl14_3 : w5.heap.size < w14.heap.size := Nat.lt_of_lt_of_le (by first | omega | (simp; done) | (simp; omega)) hb14.size
            have q14_30 : w14.cell? ⟨w5.heap.size, 0, none⟩ = some (.int .i64 la) := (by rw [hb14.cell (by first | omega | (simp; done) | (simp; omega))]; simp [go_sem, *])
            have q14_31 : w14.cell? ⟨w5.heap.size, 1, none⟩ = some (.int .i64 lt) := (by rw [hb14.cell (by first | omega | (simp; done) | (simp; omega))]; simp [go_sem, *])
            have hl14_4 : w11.heap.size < w14.heap.size := Nat.lt_of_lt_of_le (by first | omega | (simp; done) | (simp; omega)) hb14.size
            have q14_40 : w14.cell? ⟨w11.heap.size, 0, none⟩ = some (.int .i64 (1000 + 10 * v)) := (by rw [hb14.cell (by first | omega | (simp; done) | (simp; omega))]; simp [go_sem, *])
            have q14_41 : w14.cell? ⟨w11.heap.size, 1, none⟩ = some (.int .i64 t) := (by rw [hb14.cell (by first | omega | (simp; done) | (simp; omega))]; simp [go_sem, *])
            have hl14_5 : w12.heap.size < w14.heap.size := Nat.lt_of_lt_of_le (by first | omega | (simp; done) | (simp; omega)) hb14.size
            have q14_50 : w14.cell? ⟨w12.heap.size, 0, none⟩ = some (.int .i64 pl) := (by rw [hb14.cell (by first | omega | (simp; done) | (simp; omega))]; simp [go_sem, *])
            have q14_51 : w14.cell? ⟨w12.heap.size, 1, none⟩ = some (.int .i64 pu) := (by rw [hb14.cell (by first | omega | (simp; done) | (simp; omega))]; simp [go_sem, *])
            have B14 : Below w.heap.size w w14 := Below.trans (by repeat' (first | (with_reducible exact Below.refl _ _) | (with_reducible assumption) | (with_reducible refine Below.alloc ?_ ?_ _) | (with_reducible refine Below.drew ?_) | (with_reducible refine belowDraws ?_ _) | (with_reducible refine Below.setCell ?_ ?_ _) | omega | (simp; done) | (simp; omega))) (hb14.mono (by first | omega | (simp; done) | (simp; omega)))
            have hz14 := B14.size
            have S14 : Dice w14 bd A n c l := Dice.over (by repeat' (first | (with_reducible assumption) | (with_reducible refine Dice.alloc ?_ _) | (with_reducible refine Dice.drew ?_) | (with_reducible refine Dice.drewN ?_ _) | (with_reducible refine Dice.set ?_ ?_ _) | (first | omega | (simp; done) | (simp; omega)))) hb14
            have y14 := S14.inside
            clear q13_00 q13_01 q13_10 q13_11 q13_20 q13_21 q13_30 q13_31 q13_40 q13_41 q13_50 q13_51 hl13_0 hl13_1 hl13_2 hl13_3 hl13_4 hl13_5
            clear hb14
            clear MB CB
            go_wp2_with (go_at_call 32; (with_reducible refine (BT _).mono ?_); rintro e wB ⟨rfl, hbB⟩; have BB : Below w.heap.size w wB := Below.trans (by repeat' (first | (with_reducible exact Below.refl _ _) | (with_reducible assumption) | (with_reducible refine Below.alloc ?_ ?_ _) | (with_reducible refine Below.drew ?_) | (with_reducible refine belowDraws ?_ _) | (with_reducible refine Below.setCell ?_ ?_ _) | omega | (simp; done) | (simp; omega))) (hbB.mono (by first | omega | (simp; done) | (simp; omega))))
            all_goals go_ret
            all_goals exact ⟨endBool (by simp_all), by repeat' (first | (with_reducible exact Below.refl _ _) | (with_reducible assumption) | (with_reducible refine Below.alloc ?_ ?_ _) | (with_reducible refine Below.drew ?_) | (with_reducible refine belowDraws ?_ _) | (with_reducible refine Below.setCell ?_ ?_ _) | omega | (simp; done) | (simp; omega))⟩
          | false =>
            clear ho
            go_wp2_with fail
            refine (MB _).mono ?_
            rintro e w13 ⟨rfl, hb13⟩
            have hl13_0 : w2.heap.size < w13.heap.size := Nat.lt_of_lt_of_le (by first | omega | (simp; done) | (simp; omega)) hb13.size
            have q13_00 : w13.cell? ⟨w2.heap.size, 0, none⟩ = some (.int .i64 fa) := (by rw [hb13.cell (by first | omega | (simp; done) | (simp; omega))]; simp [go_sem, *])
            have q13_01 : w13.cell? ⟨w2.heap.size, 1, none⟩ = some (.int .i64 ft) := (by rw [hb13.cell (by first | omega | (simp; done) | (simp; omega))]; simp [go_sem, *])
            have hl13_1 : w3.heap.size < w13.heap.size := Nat.lt_of_lt_of_le (by first | omega | (simp; done) | (simp; omega)) hb13.size
            have q13_10 : w13.cell? ⟨w3.heap.size, 0, none⟩ = some (.int .i64 fa) := (by rw [hb13.cell (by first | omega | (simp; done) | (simp; omega))]; simp [go_sem, *])
            have q13_11 : w13.cell? ⟨w3.heap.size, 1, none⟩ = some (.int .i64 ft) := (by rw [hb13.cell (by first | omega | (simp; done) | (simp; omega))]; simp [go_sem, *])
            have hl13_2 : w4.heap.size < w13.heap.size := Nat.lt_of_lt_of_le (by first | omega | (simp; done) | (simp; omega)) hb13.size
            have q13_20 : w13.cell? ⟨w4.heap.size, 0, none⟩ = some (.int .i64 la) := (by rw [hb13.cell (by first | omega | (simp; done) | (simp; omega))]; simp [go_sem, *])
            have q13_21 : w13.cell? ⟨w4.heap.size, 1, none⟩ = some (.int .i64 lt) := (by rw [hb13.cell (by first | omega | (simp; done) | (simp; omega))]; simp [go_sem, *])
            have hl13_3 : w5.heap.size < w13.heap.size := Nat.lt_of_lt_of_le (by first | omega | (simp; done) | (simp; omega)) hb13.size
            have q13_30 : w13.cell? ⟨w5.heap.size, 0, none⟩ = some (.int .i64 la) := (by rw [hb13.cell (by first | omega | (simp; done) | (simp; omega))]; simp [go_sem, *])
            have q13_31 : w13.cell? ⟨w5.heap.size, 1, none⟩ = some (.int .i64 lt) := (by rw [hb13.cell (by first | omega | (simp; done) | (simp; omega))]; simp [go_sem, *])
            have hl13_4 : w11.heap.size < w13.heap.size := Nat.lt_of_lt_of_le (by first | omega | (simp; done) | (simp; omega)) hb13.size
            have q13_40 : w13.cell? ⟨w11.heap.size, 0, none⟩ = some (.int .i64 (1000 + 10 * v)) := (by rw [hb13.cell (by first | omega | (simp; done) | (simp; omega))]; simp [go_sem, *])
            have q13_41 : w13.cell? ⟨w11.heap.size, 1, none⟩ = some (.int .i64 t) := (by rw [hb13.cell (by first | omega | (simp; done) | (simp; omega))]; simp [go_sem, *])
            have hl13_5 : w12.heap.size < w13.heap.size := Nat.lt_of_lt_of_le (by first | omega | (simp; done) | (simp; omega)) hb13.size
            have q13_50 : w13.cell? ⟨w12.heap.size, 0, none⟩ = some (.int .i64 pl) := (by rw [hb13.cell (by first | omega | (simp; done) | (simp; omega))]; simp [go_sem, *])
            have q13_51 : w13.cell? ⟨w12.heap.size, 1, none⟩ = some (.int .i64 pu) := (by rw [hb13.cell (by first | omega | (simp; done) | (simp; omega))]; simp [go_sem, *])
            have B13 : Below w.heap.size w w13 := Below.trans (by repeat' (first | (with_reducible exact Below.refl _ _) | (with_reducible assumption) | (with_reducible refine Below.alloc ?_ ?_ _) | (with_reducible refine Below.drew ?_) | (with_reducible refine belowDraws ?_ _) | (with_reducible refine Below.setCell ?_ ?_ _) | omega | (simp; done) | (simp; omega))) (hb13.mono (by first | omega | (simp; done) | (simp; omega)))
            have hz13 := B13.size
            have S13 : Dice w13 bd A n c l := Dice.over (by repeat' (first | (with_reducible assumption) | (with_reducible refine Dice.alloc ?_ _) | (with_reducible refine Dice.drew ?_) | (with_reducible refine Dice.drewN ?_ _) | (with_reducible refine Dice.set ?_ ?_ _) | (first | omega | (simp; done) | (simp; omega)))) hb13
            have y13 := S13.inside
            clear q12_00 q12_01 q12_10 q12_11 q12_20 q12_21 q12_30 q12_31 q12_40 q12_41 hl12_0 hl12_1 hl12_2 hl12_3 hl12_4
            clear hb13
            go_wp2_with fail
            refine (CB _).mono ?_
            rintro e w14 ⟨rfl, hb14⟩
            have hl14_0 : w2.heap.size < w14.heap.size := Nat.lt_of_lt_of_le (by first | omega | (simp; done) | (simp; omega)) hb14.size
            have q14_00 : w14.cell? ⟨w2.heap.size, 0, none⟩ = some (.int .i64 fa) := (by rw [hb14.cell (by first | omega | (simp; done) | (simp; omega))]; simp [go_sem, *])
            have q14_01 : w14.cell? ⟨w2.heap.size, 1, none⟩ = some (.int .i64 ft) := (by rw [hb14.cell (by first | omega | (simp; done) | (simp; omega))]; simp [go_sem, *])
            have hl14_1 : w3.heap.size < w14.heap.size := Nat.lt_of_lt_of_le (by first | omega | (simp; done) | (simp; omega)) hb14.size
            have q14_10 : w14.cell? ⟨w3.heap.size, 0, none⟩ = some (.int .i64 fa) := (by rw [hb14.cell (by first | omega | (simp; done) | (simp; omega))]; simp [go_sem, *])
            have q14_11 : w14.cell? ⟨w3.heap.size, 1, none⟩ = some (.int .i64 ft) := (by rw [hb14.cell (by first | omega | (simp; done) | (simp; omega))]; simp [go_sem, *])
            have hl14_2 : w4.heap.size < w14.heap.size := Nat.lt_of_lt_of_le (by first | omega | (simp; done) | (simp; omega)) hb14.size
            have q14_20 : w14.cell? ⟨w4.heap.size, 0, none⟩ = some (.int .i64 la) := (by rw [hb14.cell (by first | omega | (simp; done) | (simp; omega))]; simp [go_sem, *])
            have q14_21 : w14.cell? ⟨w4.heap.size, 1, none⟩ = some (.int .i64 lt) := (by rw [hb14.cell (by first | omega | (simp; done) | (simp; omega))]; simp [go_sem, *])
            have hl14_3 : w5.heap.size < w14.heap.size := Nat.lt_of_lt_of_le (by first | omega | (simp; done) | (simp; omega)) hb14.size
            have q14_30 : w14.cell? ⟨w5.heap.size, 0, none⟩ = some (.int .i64 la) := (by rw [hb14.cell (by first | omega | (simp; done) | (simp; omega))]; simp [go_sem, *])
            have q14_31 : w14.cell? ⟨w5.heap.size, 1, none⟩ = some (.int .i64 lt) := (by rw [hb14.cell (by first | omega | (simp; done) | (simp; omega))]; simp [go_sem, *])
            have hl14_4 : w11.heap.size < w14.heap.size := Nat.lt_of_lt_of_le (by first | omega | (simp; done) | (simp; omega)) hb14.size
            have q14_40 : w14.cell? ⟨w11.heap.size, 0, none⟩ = some (.int .i64 (1000 + 10 * v)) := (by rw [hb14.cell (by first | omega | (simp; done) | (simp; omega))]; simp [go_sem, *])
            have q14_41 : w14.cell? ⟨w11.heap.size, 1, none⟩ = some (.int .i64 t) := (by rw [hb14.cell (by first | omega | (simp; done) | (simp; omega))]; simp [go_sem, *])
            have hl14_5 : w12.heap.size < w14.heap.size := Nat.lt_of_lt_of_le (by first | omega | (simp; done) | (simp; omega)) hb14.size
            have q14_50 : w14.cell? ⟨w12.heap.size, 0, none⟩ = some (.int .i64 pl) := (by rw [hb14.cell (by first | omega | (simp; done) | (simp; omega))]; simp [go_sem, *])
            have q14_51 : w14.cell? ⟨w12.heap.size, 1, none⟩ = some (.int .i64 pu) := (by rw [hb14.cell (by first | omega | (simp; done) | (simp; omega))]; simp [go_sem, *])
            have B14 : Below w.heap.size w w14 := Below.trans (by repeat' (first | (with_reducible exact Below.refl _ _) | (with_reducible assumption) | (with_reducible refine Below.alloc ?_ ?_ _) | (with_reducible refine Below.drew ?_) | (with_reducible refine belowDraws ?_ _) | (with_reducible refine Below.setCell ?_ ?_ _) | omega | (simp; done) | (simp; omega))) (hb14.mono (by first | omega | (simp; done) | (simp; omega)))
            have hz14 := B14.size
            have S14 : Dice w14 bd A n c l := Dice.over (by repeat' (first | (with_reducible assumption) | (with_reducible refine Dice.alloc ?_ _) | (with_reducible refine Dice.drew ?_) | (with_reducible refine Dice.drewN ?_ _) | (with_reducible refine Dice.set ?_ ?_ _) | (first | omega | (simp; done) | (simp; omega)))) hb14
            have y14 := S14.inside
            clear q13_00 q13_01 q13_10 q13_11 q13_20 q13_21 q13_30 q13_31 q13_40 q13_41 q13_50 q13_51 hl13_0 hl13_1 hl13_2 hl13_3 hl13_4 hl13_5
            clear hb14
            clear MB CB
            go_wp2_with (go_at_call 32; (with_reducible refine (BT _).mono ?_); rintro e wB ⟨rfl, hbB⟩; have BB : Below w.heap.size w wB := Below.trans (by repeat' (first | (with_reducible exact Below.refl _ _) | (with_reducible assumption) | (with_reducible refine Below.alloc ?_ ?_ _) | (with_reducible refine Below.drew ?_) | (with_reducible refine belowDraws ?_ _) | (with_reducible refine Below.setCell ?_ ?_ _) | omega | (simp; done) | (simp; omega))) (hbB.mono (by first | omega | (simp; done) | (simp; omega))))
            all_goals go_ret
            all_goals exact ⟨endBool (by simp_all), by repeat' (first | (with_reducible exact Below.refl _ _) | (with_reducible assumption) | (with_reducible refine Below.alloc ?_ ?_ _) | (with_reducible refine Below.drew ?_) | (with_reducible refine belowDraws ?_ _) | (with_reducible refine Below.setCell ?_ ?_ _) | omega | (simp; done) | (simp; omega))⟩
        · have ha : (0 : Int) ≤ 0 ∧ 0 ≤ len := by omega
          have MB := fun W => iMayBeAt_any s (1000 + 10 * v) t len (0) eye W
          have CB := fun W => iCountReadings_any s len (0) eye W
          have ho := HO.out (0)
          rw [HR.out (0) ha] at MB
          rw [HC.out (0) ha] at CB
          have hm := HM.out
          obtain ⟨ow, how⟩ : ∃ x : Nat, (reads s len (0) eye).length = x := ⟨_, rfl⟩
          have hw := reads_le s len (0) eye
          rw [how] at CB ho hw
          clear HO HR HC HM how ha
          rw [hm] at MB ho
          simp only at MB
          have ho1 := ho rfl
          clear ho hm
          go_wp2_with fail
          refine (MB _).mono ?_
          rintro e w13 ⟨rfl, hb13⟩
          have hl13_0 : w2.heap.size < w13.heap.size := Nat.lt_of_lt_of_le (by first | omega | (simp; done) | (simp; omega)) hb13.size
          have q13_00 : w13.cell? ⟨w2.heap.size, 0, none⟩ = some (.int .i64 fa) := (by rw [hb13.cell (by first | omega | (simp; done) | (simp; omega))]; simp [go_sem, *])
          have q13_01 : w13.cell? ⟨w2.heap.size, 1, none⟩ = some (.int .i64 ft) := (by rw [hb13.cell (by first | omega | (simp; done) | (simp; omega))]; simp [go_sem, *])
          have hl13_1 : w3.heap.size < w13.heap.size := Nat.lt_of_lt_of_le (by first | omega | (simp; done) | (simp; omega)) hb13.size
          have q13_10 : w13.cell? ⟨w3.heap.size, 0, none⟩ = some (.int .i64 fa) := (by rw [hb13.cell (by first | omega | (simp; done) | (simp; omega))]; simp [go_sem, *])
          have q13_11 : w13.cell? ⟨w3.heap.size, 1, none⟩ = some (.int .i64 ft) := (by rw [hb13.cell (by first | omega | (simp; done) | (simp; omega))]; simp [go_sem, *])
          have hl13_2 : w4.heap.size < w13.heap.size := Nat.lt_of_lt_of_le (by first | omega | (simp; done) | (simp; omega)) hb13.size
          have q13_20 : w13.cell? ⟨w4.heap.size, 0, none⟩ = some (.int .i64 la) := (by rw [hb13.cell (by first | omega | (simp; done) | (simp; omega))]; simp [go_sem, *])
          have q13_21 : w13.cell? ⟨w4.heap.size, 1, none⟩ = some (.int .i64 lt) := (by rw [hb13.cell (by first | omega | (simp; done) | (simp; omega))]; simp [go_sem, *])
          have hl13_3 : w5.heap.size < w13.heap.size := Nat.lt_of_lt_of_le (by first | omega | (simp; done) | (simp; omega)) hb13.size
          have q13_30 : w13.cell? ⟨w5.heap.size, 0, none⟩ = some (.int .i64 la) := (by rw [hb13.cell (by first | omega | (simp; done) | (simp; omega))]; simp [go_sem, *])
          have q13_31 : w13.cell? ⟨w5.heap.size, 1, none⟩ = some (.int .i64 lt) := (by rw [hb13.cell (by first | omega | (simp; done) | (simp; omega))]; simp [go_sem, *])
          have hl13_4 : w11.heap.size < w13.heap.size := Nat.lt_of_lt_of_le (by first | omega | (simp; done) | (simp; omega)) hb13.size
          have q13_40 : w13.cell? ⟨w11.heap.size, 0, none⟩ = some (.int .i64 (1000 + 10 * v)) := (by rw [hb13.cell (by first | omega | (simp; done) | (simp; omega))]; simp [go_sem, *])
          have q13_41 : w13.cell? ⟨w11.heap.size, 1, none⟩ = some (.int .i64 t) := (by rw [hb13.cell (by first | omega | (simp; done) | (simp; omega))]; simp [go_sem, *])
          have hl13_5 : w12.heap.size < w13.heap.size := Nat.lt_of_lt_of_le (by first | omega | (simp; done) | (simp; omega)) hb13.size
          have q13_50 : w13.cell? ⟨w12.heap.size, 0, none⟩ = some (.int .i64 0) := (by rw [hb13.cell (by first | omega | (simp; done) | (simp; omega))]; simp [go_sem, *])
          have q13_51 : w13.cell? ⟨w12.heap.size, 1, none⟩ = some (.int .i64 pu) := (by rw [hb13.cell (by first | omega | (simp; done) | (simp; omega))]; simp [go_sem, *])
          have B13 : Below w.heap.size w w13 := Below.trans (by repeat' (first | (with_reducible exact Below.refl _ _) | (with_reducible assumption) | (with_reducible refine Below.alloc ?_ ?_ _) | (with_reducible refine Below.drew ?_) | (with_reducible refine belowDraws ?_ _) | (with_reducible refine Below.setCell ?_ ?_ _) | omega | (simp; done) | (simp; omega))) (hb13.mono (by first | omega | (simp; done) | (simp; omega)))
          have hz13 := B13.size
          have S13 : Dice w13 bd A n c l := Dice.over (by repeat' (first | (with_reducible assumption) | (with_reducible refine Dice.alloc ?_ _) | (with_reducible refine Dice.drew ?_) | (with_reducible refine Dice.drewN ?_ _) | (with_reducible refine Dice.set ?_ ?_ _) | (first | omega | (simp; done) | (simp; omega)))) hb13
          have y13 := S13.inside
          clear q12_00 q12_01 q12_10 q12_11 q12_20 q12_21 q12_30 q12_31 q12_40 q12_41 hl12_0 hl12_1 hl12_2 hl12_3 hl12_4
          clear hb13
          go_wp2_with fail
          refine (CB _).mono ?_
          rintro e w14 ⟨rfl, hb14⟩
          have hl14_0 : w2.heap.size < w14.heap.size := Nat.lt_of_lt_of_le (by first | omega | (simp; done) | (simp; omega)) hb14.size
          have q14_00 : w14.cell? ⟨w2.heap.size, 0, none⟩ = some (.int .i64 fa) := (by rw [hb14.cell (by first | omega | (simp; done) | (simp; omega))]; simp [go_sem, *])
          have q14_01 : w14.cell? ⟨w2.heap.size, 1, none⟩ = some (.int .i64 ft) := (by rw [hb14.cell (by first | omega | (simp; done) | (simp; omega))]; simp [go_sem, *])
          have hl14_1 : w3.heap.size < w14.heap.size := Nat.lt_of_lt_of_le (by first | omega | (simp; done) | (simp; omega)) hb14.size
          have q14_10 : w14.cell? ⟨w3.heap.size, 0, none⟩ = some (.int .i64 fa) := (by rw [hb14.cell (by first | omega | (simp; done) | (simp; omega))]; simp [go_sem, *])
          have q14_11 : w14.cell? ⟨w3.heap.size, 1, none⟩ = some (.int .i64 ft) := (by rw [hb14.cell (by first | omega | (simp; done) | (simp; omega))]; simp [go_sem, *])
          have hl14_2 : w4.heap.size < w14.heap.size := Nat.lt_of_lt_of_le (by first | omega | (simp; done) | (simp; omega)) hb14.size
          have q14_20 : w14.cell? ⟨w4.heap.size, 0, none⟩ = some (.int .i64 la) := (by rw [hb14.cell (by first | omega | (simp; done) | (simp; omega))]; simp [go_sem, *])
          have q14_21 : w14.cell? ⟨w4.heap.size, 1, none⟩ = some (.int .i64 lt) := (by rw [hb14.cell (by first | omega | (simp; done) | (simp; omega))]; simp [go_sem, *])
          have hl14_3 : w5.heap.size < w14.heap.size := Nat.lt_of_lt_of_le (by first | omega | (simp; done) | (simp; omega)) hb14.size
          have q14_30 : w14.cell? ⟨w5.heap.size, 0, none⟩ = some (.int .i64 la) := (by rw [hb14.cell (by first | omega | (simp; done) | (simp; omega))]; simp [go_sem, *])
          have q14_31 : w14.cell? ⟨w5.heap.size, 1, none⟩ = some (.int .i64 lt) := (by rw [hb14.cell (by first | omega | (simp; done) | (simp; omega))]; simp [go_sem, *])
          have hl14_4 : w11.heap.size < w14.heap.size := Nat.lt_of_lt_of_le (by first | omega | (simp; done) | (simp; omega)) hb14.size
          have q14_40 : w14.cell? ⟨w11.heap.size, 0, none⟩ = some (.int .i64 (1000 + 10 * v)) := (by rw [hb14.cell (by first | omega | (simp; done) | (simp; omega))]; simp [go_sem, *])
          have q14_41 : w14.cell? ⟨w11.heap.size, 1, none⟩ = some (.int .i64 t) := (by rw [hb14.cell (by first | omega | (simp; done) | (simp; omega))]; simp [go_sem, *])
          have hl14_5 : w12.heap.size < w14.heap.size := Nat.lt_of_lt_of_le (by first | omega | (simp; done) | (simp; omega)) hb14.size
          have q14_50 : w14.cell? ⟨w12.heap.size, 0, none⟩ = some (.int .i64 0) := (by rw [hb14.cell (by first | omega | (simp; done) | (simp; omega))]; simp [go_sem, *])
          have q14_51 : w14.cell? ⟨w12.heap.size, 1, none⟩ = some (.int .i64 pu) := (by rw [hb14.cell (by first | omega | (simp; done) | (simp; omega))]; simp [go_sem, *])
          have B14 : Below w.heap.size w w14 := Below.trans (by repeat' (first | (with_reducible exact Below.refl _ _) | (with_reducible assumption) | (with_reducible refine Below.alloc ?_ ?_ _) | (with_reducible refine Below.drew ?_) | (with_reducible refine belowDraws ?_ _) | (with_reducible refine Below.setCell ?_ ?_ _) | omega | (simp; done) | (simp; omega))) (hb14.mono (by first | omega | (simp; done) | (simp; omega)))
          have hz14 := B14.size
          have S14 : Dice w14 bd A n c l := Dice.over (by repeat' (first | (with_reducible assumption) | (with_reducible refine Dice.alloc ?_ _) | (with_reducible refine Dice.drew ?_) | (with_reducible refine Dice.drewN ?_ _) | (with_reducible refine Dice.set ?_ ?_ _) | (first | omega | (simp; done) | (simp; omega)))) hb14
          have y14 := S14.inside
          clear q13_00 q13_01 q13_10 q13_11 q13_20 q13_21 q13_30 q13_31 q13_40 q13_41 q13_50 q13_51 hl13_0 hl13_1 hl13_2 hl13_3 hl13_4 hl13_5
          clear hb14
          clear MB CB
          go_wp2_with (go_at_call 32; (with_reducible refine (BT _).mono ?_); rintro e wB ⟨rfl, hbB⟩; have BB : Below w.heap.size w wB := Below.trans (by repeat' (first | (with_reducible exact Below.refl _ _) | (with_reducible assumption) | (with_reducible refine Below.alloc ?_ ?_ _) | (with_reducible refine Below.drew ?_) | (with_reducible refine belowDraws ?_ _) | (with_reducible refine Below.setCell ?_ ?_ _) | omega | (simp; done) | (simp; omega))) (hbB.mono (by first | omega | (simp; done) | (simp; omega))))
          all_goals go_ret
          all_goals exact ⟨endBool (by simp_all), by repeat' (first | (with_reducible exact Below.refl _ _) | (with_reducible assumption) | (with_reducible refine Below.alloc ?_ ?_ _) | (with_reducible refine Below.drew ?_) | (with_reducible refine belowDraws ?_ _) | (with_reducible refine Below.setCell ?_ ?_ _) | omega | (simp; done) | (simp; omega))⟩
        · have ha : (0 : Int) ≤ pl ∧ pl ≤ len := by omega
          have MB := fun W => iMayBeAt_any s (1000 + 10 * v) t len (pl) eye W
          have CB := fun W => iCountReadings_any s len (pl) eye W
          have ho := HO.out (pl)
          rw [HR.out (pl) ha] at MB
          rw [HC.out (pl) ha] at CB
          have hm := HM.out
          obtain ⟨ow, how⟩ : ∃ x : Nat, (reads s len (pl) eye).length = x := ⟨_, rfl⟩
          have hw := reads_le s len (pl) eye
          rw [how] at CB ho hw
          clear HO HR HC HM how ha
          rw [hm] at MB ho
          simp only at MB
          have ho1 := ho rfl
          clear ho hm
          go_wp2_with fail
          refine (MB _).mono ?_
          rintro e w13 ⟨rfl, hb13⟩
          have hl13_0 : w2.heap.size < w13.heap.size := Nat.lt_of_lt_of_le (by first | omega | (simp; done) | (simp; omega)) hb13.size
          have q13_00 : w13.cell? ⟨w2.heap.size, 0, none⟩ = some (.int .i64 fa) := (by rw [hb13.cell (by first | omega | (simp; done) | (simp; omega))]; simp [go_sem, *])
          have q13_01 : w13.cell? ⟨w2.heap.size, 1, none⟩ = some (.int .i64 ft) := (by rw [hb13.cell (by first | omega | (simp; done) | (simp; omega))]; simp [go_sem, *])
          have hl13_1 : w3.heap.size < w13.heap.size := Nat.lt_of_lt_of_le (by first | omega | (simp; done) | (simp; omega)) hb13.size
          have q13_10 : w13.cell? ⟨w3.heap.size, 0, none⟩ = some (.int .i64 fa) := (by rw [hb13.cell (by first | omega | (simp; done) | (simp; omega))]; simp [go_sem, *])
          have q13_11 : w13.cell? ⟨w3.heap.size, 1, none⟩ = some (.int .i64 ft) := (by rw [hb13.cell (by first | omega | (simp; done) | (simp; omega))]; simp [go_sem, *])
          have hl13_2 : w4.heap.size < w13.heap.size := Nat.lt_of_lt_of_le (by first | omega | (simp; done) | (simp; omega)) hb13.size
          have q13_20 : w13.cell? ⟨w4.heap.size, 0, none⟩ = some (.int .i64 la) := (by rw [hb13.cell (by first | omega | (simp; done) | (simp; omega))]; simp [go_sem, *])
          have q13_21 : w13.cell? ⟨w4.heap.size, 1, none⟩ = some (.int .i64 lt) := (by rw [hb13.cell (by first | omega | (simp; done) | (simp; omega))]; simp [go_sem, *])
          have hl13_3 : w5.heap.size < w13.heap.size := Nat.lt_of_lt_of_le (by first | omega | (simp; done) | (simp; omega)) hb13.size
          have q13_30 : w13.cell? ⟨w5.heap.size, 0, none⟩ = some (.int .i64 la) := (by rw [hb13.cell (by first | omega | (simp; done) | (simp; omega))]; simp [go_sem, *])
          have q13_31 : w13.cell? ⟨w5.heap.size, 1, none⟩ = some (.int .i64 lt) := (by rw [hb13.cell (by first | omega | (simp; done) | (simp; omega))]; simp [go_sem, *])
          have hl13_4 : w11.heap.size < w13.heap.size := Nat.lt_of_lt_of_le (by first | omega | (simp; done) | (simp; omega)) hb13.size
          have q13_40 : w13.cell? ⟨w11.heap.size, 0, none⟩ = some (.int .i64 (1000 + 10 * v)) := (by rw [hb13.cell (by first | omega | (simp; done) | (simp; omega))]; simp [go_sem, *])
          have q13_41 : w13.cell? ⟨w11.heap.size, 1, none⟩ = some (.int .i64 t) := (by rw [hb13.cell (by first | omega | (simp; done) | (simp; omega))]; simp [go_sem, *])
          have hl13_5 : w12.heap.size < w13.heap.size := Nat.lt_of_lt_of_le (by first | omega | (simp; done) | (simp; omega)) hb13.size
          have q13_50 : w13.cell? ⟨w12.heap.size, 0, none⟩ = some (.int .i64 pl) := (by rw [hb13.cell (by first | omega | (simp; done) | (simp; omega))]; simp [go_sem, *])
          have q13_51 : w13.cell? ⟨w12.heap.size, 1, none⟩ = some (.int .i64 pu) := (by rw [hb13.cell (by first | omega | (simp; done) | (simp; omega))]; simp [go_sem, *])
          have B13 : Below w.heap.size w w13 := Below.trans (by repeat' (first | (with_reducible exact Below.refl _ _) | (with_reducible assumption) | (with_reducible refine Below.alloc ?_ ?_ _) | (with_reducible refine Below.drew ?_) | (with_reducible refine belowDraws ?_ _) | (with_reducible refine Below.setCell ?_ ?_ _) | omega | (simp; done) | (simp; omega))) (hb13.mono (by first | omega | (simp; done) | (simp; omega)))
          have hz13 := B13.size
          have S13 : Dice w13 bd A n c l := Dice.over (by repeat' (first | (with_reducible assumption) | (with_reducible refine Dice.alloc ?_ _) | (with_reducible refine Dice.drew ?_) | (with_reducible refine Dice.drewN ?_ _) | (with_reducible refine Dice.set ?_ ?_ _) | (first | omega | (simp; done) | (simp; omega)))) hb13
          have y13 := S13.inside
          clear q12_00 q12_01 q12_10 q12_11 q12_20 q12_21 q12_30 q12_31 q12_40 q12_41 hl12_0 hl12_1 hl12_2 hl12_3 hl12_4
          clear hb13
          go_wp2_with fail
          refine (CB _).mono ?_
          rintro e w14 ⟨rfl, hb14⟩
          have hl14_0 : w2.heap.size < w14.heap.size := Nat.lt_of_lt_of_le (by first | omega | (simp; done) | (simp; omega)) hb14.size
          have q14_00 : w14.cell? ⟨w2.heap.size, 0, none⟩ = some (.int .i64 fa) := (by rw [hb14.cell (by first | omega | (simp; done) | (simp; omega))]; simp [go_sem, *])
          have q14_01 : w14.cell? ⟨w2.heap.size, 1, none⟩ = some (.int .i64 ft) := (by rw [hb14.cell (by first | omega | (simp; done) | (simp; omega))]; simp [go_sem, *])
          have hl14_1 : w3.heap.size < w14.heap.size := Nat.lt_of_lt_of_le (by first | omega | (simp; done) | (simp; omega)) hb14.size
          have q14_10 : w14.cell? ⟨w3.heap.size, 0, none⟩ = some (.int .i64 fa) := (by rw [hb14.cell (by first | omega | (simp; done) | (simp; omega))]; simp [go_sem, *])
          have q14_11 : w14.cell? ⟨w3.heap.size, 1, none⟩ = some (.int .i64 ft) := (by rw [hb14.cell (by first | omega | (simp; done) | (simp; omega))]; simp [go_sem, *])
          have hl14_2 : w4.heap.size < w14.heap.size := Nat.lt_of_lt_of_le (by first | omega | (simp; done) | (simp; omega)) hb14.size
          have q14_20 : w14.cell? ⟨w4.heap.size, 0, none⟩ = some (.int .i64 la) := (by rw [hb14.cell (by first | omega | (simp; done) | (simp; omega))]; simp [go_sem, *])
          have q14_21 : w14.cell? ⟨w4.heap.size, 1, none⟩ = some (.int .i64 lt) := (by rw [hb14.cell (by first | omega | (simp; done) | (simp; omega))]; simp [go_sem, *])
          have hl14_3 : w5.heap.size < w14.heap.size := Nat.lt_of_lt_of_le (by first | omega | (simp; done) | (simp; omega)) hb14.size
          have q14_30 : w14.cell? ⟨w5.heap.size, 0, none⟩ = some (.int .i64 la) := (by rw [hb14.cell (by first | omega | (simp; done) | (simp; omega))]; simp [go_sem, *])
          have q14_31 : w14.cell? ⟨w5.heap.size, 1, none⟩ = some (.int .i64 lt) := (by rw [hb14.cell (by first | omega | (simp; done) | (simp; omega))]; simp [go_sem, *])
          have hl14_4 : w11.heap.size < w14.heap.size := Nat.lt_of_lt_of_le (by first | omega | (simp; done) | (simp; omega)) hb14.size
          have q14_40 : w14.cell? ⟨w11.heap.size, 0, none⟩ = some (.int .i64 (1000 + 10 * v)) := (by rw [hb14.cell (by first | omega | (simp; done) | (simp; omega))]; simp [go_sem, *])
          have q14_41 : w14.cell? ⟨w11.heap.size, 1, none⟩ = some (.int .i64 t) := (by rw [hb14.cell (by first | omega | (simp; done) | (simp; omega))]; simp [go_sem, *])
          have hl14_5 : w12.heap.size < w14.heap.size := Nat.lt_of_lt_of_le (by first | omega | (simp; done) | (simp; omega)) hb14.size
          have q14_50 : w14.cell? ⟨w12.heap.size, 0, none⟩ = some (.int .i64 pl) := (by rw [hb14.cell (by first | omega | (simp; done) | (simp; omega))]; simp [go_sem, *])
          have q14_51 : w14.cell? ⟨w12.heap.size, 1, none⟩ = some (.int .i64 pu) := (by rw [hb14.cell (by first | omega | (simp; done) | (simp; omega))]; simp [go_sem, *])
          have B14 : Below w.heap.size w w14 := Below.trans (by repeat' (first | (with_reducible exact Below.refl _ _) | (with_reducible assumption) | (with_reducible refine Below.alloc ?_ ?_ _) | (with_reducible refine Below.drew ?_) | (with_reducible refine belowDraws ?_ _) | (with_reducible refine Below.setCell ?_ ?_ _) | omega | (simp; done) | (simp; omega))) (hb14.mono (by first | omega | (simp; done) | (simp; omega)))
          have hz14 := B14.size
          have S14 : Dice w14 bd A n c l := Dice.over (by repeat' (first | (with_reducible assumption) | (with_reducible refine Dice.alloc ?_ _) | (with_reducible refine Dice.drew ?_) | (with_reducible refine Dice.drewN ?_ _) | (with_reducible refine Dice.set ?_ ?_ _) | (first | omega | (simp; done) | (simp; omega)))) hb14
          have y14 := S14.inside
          clear q13_00 q13_01 q13_10 q13_11 q13_20 q13_21 q13_30 q13_31 q13_40 q13_41 q13_50 q13_51 hl13_0 hl13_1 hl13_2 hl13_3 hl13_4 hl13_5
          clear hb14
          clear MB CB
          go_wp2_with (go_at_call 32; (with_reducible refine (BT _).mono ?_); rintro e wB ⟨rfl, hbB⟩; have BB : Below w.heap.size w wB := Below.trans (by repeat' (first | (with_reducible exact Below.refl _ _) | (with_reducible assumption) | (with_reducible refine Below.alloc ?_ ?_ _) | (with_reducible refine Below.drew ?_) | (with_reducible refine belowDraws ?_ _) | (with_reducible refine Below.setCell ?_ ?_ _) | omega | (simp; done) | (simp; omega))) (hbB.mono (by first | omega | (simp; done) | (simp; omega))))
          all_goals go_ret
          all_goals exact ⟨endBool (by simp_all), by repeat' (first | (with_reducible exact Below.refl _ _) | (with_reducible assumption) | (with_reducible refine Below.alloc ?_ ?_ _) | (with_reducible refine Below.drew ?_) | (with_reducible refine belowDraws ?_ _) | (with_reducible refine Below.setCell ?_ ?_ _) | omega | (simp; done) | (simp; omega))⟩
        · have ha : (0 : Int) ≤ pl ∧ pl ≤ pl := by omega
          have MB := fun W => iMayBeAt_any s (1000 + 10 * v) t pl (pl) eye W
          have CB := fun W => iCountReadings_any s pl (pl) eye W
          have ho := HO.out (pl)
          rw [HR.out (pl) ha] at MB
          rw [HC.out (pl) ha] at CB
          have hm := HM.out
          obtain ⟨ow, how⟩ : ∃ x : Nat, (reads s pl (pl) eye).length = x := ⟨_, rfl⟩
          have hw := reads_le s pl (pl) eye
          rw [how] at CB ho hw
          clear HO HR HC HM how ha
          rw [hm] at MB ho
          simp only at MB
          have ho1 := ho rfl
          clear ho hm
          go_wp2_with fail
          refine (MB _).mono ?_
          rintro e w13 ⟨rfl, hb13⟩
          have hl13_0 : w2.heap.size < w13.heap.size := Nat.lt_of_lt_of_le (by first | omega | (simp; done) | (simp; omega)) hb13.size
          have q13_00 : w13.cell? ⟨w2.heap.size, 0, none⟩ = some (.int .i64 fa) := (by rw [hb13.cell (by first | omega | (simp; done) | (simp; omega))]; simp [go_sem, *])
          have q13_01 : w13.cell? ⟨w2.heap.size, 1, none⟩ = some (.int .i64 ft) := (by rw [hb13.cell (by first | omega | (simp; done) | (simp; omega))]; simp [go_sem, *])
          have hl13_1 : w3.heap.size < w13.heap.size := Nat.lt_of_lt_of_le (by first | omega | (simp; done) | (simp; omega)) hb13.size
          have q13_10 : w13.cell? ⟨w3.heap.size, 0, none⟩ = some (.int .i64 fa) := (by rw [hb13.cell (by first | omega | (simp; done) | (simp; omega))]; simp [go_sem, *])
          have q13_11 : w13.cell? ⟨w3.heap.size, 1, none⟩ = some (.int .i64 ft) := (by rw [hb13.cell (by first | omega | (simp; done) | (simp; omega))]; simp [go_sem, *])
          have hl13_2 : w4.heap.size < w13.heap.size := Nat.lt_of_lt_of_le (by first | omega | (simp; done) | (simp; omega)) hb13.size
          have q13_20 : w13.cell? ⟨w4.heap.size, 0, none⟩ = some (.int .i64 la) := (by rw [hb13.cell (by first | omega | (simp; done) | (simp; omega))]; simp [go_sem, *])
          have q13_21 : w13.cell? ⟨w4.heap.size, 1, none⟩ = some (.int .i64 lt) := (by rw [hb13.cell (by first | omega | (simp; done) | (simp; omega))]; simp [go_sem, *])
          have hl13_3 : w5.heap.size < w13.heap.size := Nat.lt_of_lt_of_le (by first | omega | (simp; done) | (simp; omega)) hb13.size
          have q13_30 : w13.cell? ⟨w5.heap.size, 0, none⟩ = some (.int .i64 la) := (by rw [hb13.cell (by first | omega | (simp; done) | (simp; omega))]; simp [go_sem, *])
          have q13_31 : w13.cell? ⟨w5.heap.size, 1, none⟩ = some (.int .i64 lt) := (by rw [hb13.cell (by first | omega | (simp; done) | (simp; omega))]; simp [go_sem, *])
          have hl13_4 : w11.heap.size < w13.heap.size := Nat.lt_of_lt_of_le (by first | omega | (simp; done) | (simp; omega)) hb13.size
          have q13_40 : w13.cell? ⟨w11.heap.size, 0, none⟩ = some (.int .i64 (1000 + 10 * v)) := (by rw [hb13.cell (by first | omega | (simp; done) | (simp; omega))]; simp [go_sem, *])
          have q13_41 : w13.cell? ⟨w11.heap.size, 1, none⟩ = some (.int .i64 t) := (by rw [hb13.cell (by first | omega | (simp; done) | (simp; omega))]; simp [go_sem, *])
          have hl13_5 : w12.heap.size < w13.heap.size := Nat.lt_of_lt_of_le (by first | omega | (simp; done) | (simp; omega)) hb13.size
          have q13_50 : w13.cell? ⟨w12.heap.size, 0, none⟩ = some (.int .i64 pl) := (by rw [hb13.cell (by first | omega | (simp; done) | (simp; omega))]; simp [go_sem, *])
          have q13_51 : w13.cell? ⟨w12.heap.size, 1, none⟩ = some (.int .i64 pu) := (by rw [hb13.cell (by first | omega | (simp; done) | (simp; omega))]; simp [go_sem, *])
          have B13 : Below w.heap.size w w13 := Below.trans (by repeat' (first | (with_reducible exact Below.refl _ _) | (with_reducible assumption) | (with_reducible refine Below.alloc ?_ ?_ _) | (with_reducible refine Below.drew ?_) | (with_reducible refine belowDraws ?_ _) | (with_reducible refine Below.setCell ?_ ?_ _) | omega | (simp; done) | (simp; omega))) (hb13.mono (by first | omega | (simp; done) | (simp; omega)))
          have hz13 := B13.size
          have S13 : Dice w13 bd A n c l := Dice.over (by repeat' (first | (with_reducible assumption) | (with_reducible refine Dice.alloc ?_ _) | (with_reducible refine Dice.drew ?_) | (with_reducible refine Dice.drewN ?_ _) | (with_reducible refine Dice.set ?_ ?_ _) | (first | omega | (simp; done) | (simp; omega)))) hb13
          have y13 := S13.inside
          clear q12_00 q12_01 q12_10 q12_11 q12_20 q12_21 q12_30 q12_31 q12_40 q12_41 hl12_0 hl12_1 hl12_2 hl12_3 hl12_4
          clear hb13
          go_wp2_with fail
          refine (CB _).mono ?_
          rintro e w14 ⟨rfl, hb14⟩
          have hl14_0 : w2.heap.size < w14.heap.size := Nat.lt_of_lt_of_le (by first | omega | (simp; done) | (simp; omega)) hb14.size
          have q14_00 : w14.cell? ⟨w2.heap.size, 0, none⟩ = some (.int .i64 fa) := (by rw [hb14.cell (by first | omega | (simp; done) | (simp; omega))]; simp [go_sem, *])
          have q14_01 : w14.cell? ⟨w2.heap.size, 1, none⟩ = some (.int .i64 ft) := (by rw [hb14.cell (by first | omega | (simp; done) | (simp; omega))]; simp [go_sem, *])
          have hl14_1 : w3.heap.size < w14.heap.size := Nat.lt_of_lt_of_le (by first | omega | (simp; done) | (simp; omega)) hb14.size
          have q14_10 : w14.cell? ⟨w3.heap.size, 0, none⟩ = some (.int .i64 fa) := (by rw [hb14.cell (by first | omega | (simp; done) | (simp; omega))]; simp [go_sem, *])
          have q14_11 : w14.cell? ⟨w3.heap.size, 1, none⟩ = some (.int .i64 ft) := (by rw [hb14.cell (by first | omega | (simp; done) | (simp; omega))]; simp [go_sem, *])
          have hl14_2 : w4.heap.size < w14.heap.size := Nat.lt_of_lt_of_le (by first | omega | (simp; done) | (simp; omega)) hb14.size
          have q14_20 : w14.cell? ⟨w4.heap.size, 0, none⟩ = some (.int .i64 la) := (by rw [hb14.cell (by first | omega | (simp; done) | (simp; omega))]; simp [go_sem, *])
          have q14_21 : w14.cell? ⟨w4.heap.size, 1, none⟩ = some (.int .i64 lt) := (by rw [hb14.cell (by first | omega | (simp; done) | (simp; omega))]; simp [go_sem, *])
          have hl14_3 : w5.heap.size < w14.heap.size := Nat.lt_of_lt_of_le (by first | omega | (simp; done) | (simp; omega)) hb14.size
          have q14_30 : w14.cell? ⟨w5.heap.size, 0, none⟩ = some (.int .i64 la) := (by rw [hb14.cell (by first | omega | (simp; done) | (simp; omega))]; simp [go_sem, *])
          have q14_31 : w14.cell? ⟨w5.heap.size, 1, none⟩ = some (.int .i64 lt) := (by rw [hb14.cell (by first | omega | (simp; done) | (simp; omega))]; simp [go_sem, *])
          have hl14_4 : w11.heap.size < w14.heap.size := Nat.lt_of_lt_of_le (by first | omega | (simp; done) | (simp; omega)) hb14.size
          have q14_40 : w14.cell? ⟨w11.heap.size, 0, none⟩ = some (.int .i64 (1000 + 10 * v)) := (by rw [hb14.cell (by first | omega | (simp; done) | (simp; omega))]; simp [go_sem, *])
          have q14_41 : w14.cell? ⟨w11.heap.size, 1, none⟩ = some (.int .i64 t) := (by rw [hb14.cell (by first | omega | (simp; done) | (simp; omega))]; simp [go_sem, *])
          have hl14_5 : w12.heap.size < w14.heap.size := Nat.lt_of_lt_of_le (by first | omega | (simp; done) | (simp; omega)) hb14.size
          have q14_50 : w14.cell? ⟨w12.heap.size, 0, none⟩ = some (.int .i64 pl) := (by rw [hb14.cell (by first | omega | (simp; done) | (simp; omega))]; simp [go_sem, *])
          have q14_51 : w14.cell? ⟨w12.heap.size, 1, none⟩ = some (.int .i64 pu) := (by rw [hb14.cell (by first | omega | (simp; done) | (simp; omega))]; simp [go_sem, *])
          have B14 : Below w.heap.size w w14 := Below.trans (by repeat' (first | (with_reducible exact Below.refl _ _) | (with_reducible assumption) | (with_reducible refine Below.alloc ?_ ?_ _) | (with_reducible refine Below.drew ?_) | (with_reducible refine belowDraws ?_ _) | (with_reducible refine Below.setCell ?_ ?_ _) | omega | (simp; done) | (simp; omega))) (hb14.mono (by first | omega | (simp; done) | (simp; omega)))
          have hz14 := B14.size
          have S14 : Dice w14 bd A n c l := Dice.over (by repeat' (first | (with_reducible assumption) | (with_reducible refine Dice.alloc ?_ _) | (with_reducible refine Dice.drew ?_) | (with_reducible refine Dice.drewN ?_ _) | (with_reducible refine Dice.set ?_ ?_ _) | (first | omega | (simp; done) | (simp; omega)))) hb14
          have y14 := S14.inside
          clear q13_00 q13_01 q13_10 q13_11 q13_20 q13_21 q13_30 q13_31 q13_40 q13_41 q13_50 q13_51 hl13_0 hl13_1 hl13_2 hl13_3 hl13_4 hl13_5
          clear hb14
          clear MB CB
          go_wp2_with (go_at_call 32; (with_reducible refine (BT _).mono ?_); rintro e wB ⟨rfl, hbB⟩; have BB : Below w.heap.size w wB := Below.trans (by repeat' (first | (with_reducible exact Below.refl _ _) | (with_reducible assumption) | (with_reducible refine Below.alloc ?_ ?_ _) | (with_reducible refine Below.drew ?_) | (with_reducible refine belowDraws ?_ _) | (with_reducible refine Below.setCell ?_ ?_ _) | omega | (simp; done) | (simp; omega))) (hbB.mono (by first | omega | (simp; done) | (simp; omega))))
          all_goals go_ret
          all_goals exact ⟨endBool (by simp_all), by repeat' (first | (with_reducible exact Below.refl _ _) | (with_reducible assumption) | (with_reducible refine Below.alloc ?_ ?_ _) | (with_reducible refine Below.drew ?_) | (with_reducible refine belowDraws ?_ _) | (with_reducible refine Below.setCell ?_ ?_ _) | omega | (simp; done) | (simp; omega))⟩
        · have ha : (0 : Int) ≤ len ∧ len ≤ len := by omega
          have MB := fun W => iMayBeAt_any s (1000 + 10 * v) t len (len) eye W
          have CB := fun W => iCountReadings_any s len (len) eye W
          have ho := HO.out (len)
          rw [HR.out (len) ha] at MB
          rw [HC.out (len) ha] at CB
          obtain ⟨ow, how⟩ : ∃ x : Nat, (reads s len (len) eye).length = x := ⟨_, rfl⟩
          have hw := reads_le s len (len) eye
          rw [how] at CB ho hw
          clear HO HR HC HM how ha
          have hne : ¬ (len) = pl := by omega
          obtain ⟨ok, hok⟩ : ∃ x, mayB s (1000 + 10 * v) t len (len) eye = x := ⟨_, rfl⟩
          rw [hok] at MB ho
          clear hok
          simp only at MB
          cases ok with
          | true =>
            have ho1 := ho rfl
            clear ho
            go_wp2_with fail
            refine (MB _).mono ?_
            rintro e w13 ⟨rfl, hb13⟩
            have hl13_0 : w2.heap.size < w13.heap.size := Nat.lt_of_lt_of_le (by first | omega | (simp; done) | (simp; omega)) hb13.size
            have q13_00 : w13.cell? ⟨w2.heap.size, 0, none⟩ = some (.int .i64 fa) := (by rw [hb13.cell (by first | omega | (simp; done) | (simp; omega))]; simp [go_sem, *])
            have q13_01 : w13.cell? ⟨w2.heap.size, 1, none⟩ = some (.int .i64 ft) := (by rw [hb13.cell (by first | omega | (simp; done) | (simp; omega))]; simp [go_sem, *])
            have hl13_1 : w3.heap.size < w13.heap.size := Nat.lt_of_lt_of_le (by first | omega | (simp; done) | (simp; omega)) hb13.size
            have q13_10 : w13.cell? ⟨w3.heap.size, 0, none⟩ = some (.int .i64 fa) := (by rw [hb13.cell (by first | omega | (simp; done) | (simp; omega))]; simp [go_sem, *])
            have q13_11 : w13.cell? ⟨w3.heap.size, 1, none⟩ = some (.int .i64 ft) := (by rw [hb13.cell (by first | omega | (simp; done) | (simp; omega))]; simp [go_sem, *])
            have hl13_2 : w4.heap.size < w13.heap.size := Nat.lt_of_lt_of_le (by first | omega | (simp; done) | (simp; omega)) hb13.size
            have q13_20 : w13.cell? ⟨w4.heap.size, 0, none⟩ = some (.int .i64 la) := (by rw [hb13.cell (by first | omega | (simp; done) | (simp; omega))]; simp [go_sem, *])
            have q13_21 : w13.cell? ⟨w4.heap.size, 1, none⟩ = some (.int .i64 lt) := (by rw [hb13.cell (by first | omega | (simp; done) | (simp; omega))]; simp [go_sem, *])
            have hl13_3 : w5.heap.size < w13.heap.size := Nat.lt_of_lt_of_le (by first | omega | (simp; done) | (simp; omega)) hb13.size
            have q13_30 : w13.cell? ⟨w5.heap.size, 0, none⟩ = some (.int .i64 la) := (by rw [hb13.cell (by first | omega | (simp; done) | (simp; omega))]; simp [go_sem, *])
            have q13_31 : w13.cell? ⟨w5.heap.size, 1, none⟩ = some (.int .i64 lt) := (by rw [hb13.cell (by first | omega | (simp; done) | (simp; omega))]; simp [go_sem, *])
            have hl13_4 : w11.heap.size < w13.heap.size := Nat.lt_of_lt_of_le (by first | omega | (simp; done) | (simp; omega)) hb13.size
            have q13_40 : w13.cell? ⟨w11.heap.size, 0, none⟩ = some (.int .i64 (1000 + 10 * v)) := (by rw [hb13.cell (by first | omega | (simp; done) | (simp; omega))]; simp [go_sem, *])
            have q13_41 : w13.cell? ⟨w11.heap.size, 1, none⟩ = some (.int .i64 t) := (by rw [hb13.cell (by first | omega | (simp; done) | (simp; omega))]; simp [go_sem, *])
            have hl13_5 : w12.heap.size < w13.heap.size := Nat.lt_of_lt_of_le (by first | omega | (simp; done) | (simp; omega)) hb13.size
            have q13_50 : w13.cell? ⟨w12.heap.size, 0, none⟩ = some (.int .i64 pl) := (by rw [hb13.cell (by first | omega | (simp; done) | (simp; omega))]; simp [go_sem, *])
            have q13_51 : w13.cell? ⟨w12.heap.size, 1, none⟩ = some (.int .i64 pu) := (by rw [hb13.cell (by first | omega | (simp; done) | (simp; omega))]; simp [go_sem, *])
            have B13 : Below w.heap.size w w13 := Below.trans (by repeat' (first | (with_reducible exact Below.refl _ _) | (with_reducible assumption) | (with_reducible refine Below.alloc ?_ ?_ _) | (with_reducible refine Below.drew ?_) | (with_reducible refine belowDraws ?_ _) | (with_reducible refine Below.setCell ?_ ?_ _) | omega | (simp; done) | (simp; omega))) (hb13.mono (by first | omega | (simp; done) | (simp; omega)))
            have hz13 := B13.size
            have S13 : Dice w13 bd A n c l := Dice.over (by repeat' (first | (with_reducible assumption) | (with_reducible refine Dice.alloc ?_ _) | (with_reducible refine Dice.drew ?_) | (with_reducible refine Dice.drewN ?_ _) | (with_reducible refine Dice.set ?_ ?_ _) | (first | omega | (simp; done) | (simp; omega)))) hb13
            have y13 := S13.inside
            clear q12_00 q12_01 q12_10 q12_11 q12_20 q12_21 q12_30 q12_31 q12_40 q12_41 hl12_0 hl12_1 hl12_2 hl12_3 hl12_4
            clear hb13
            go_wp2_with fail
            refine (CB _).mono ?_
            rintro e w14 ⟨rfl, hb14⟩
            have hl14_0 : w2.heap.size < w14.heap.size := Nat.lt_of_lt_of_le (by first | omega | (simp; done) | (simp; omega)) hb14.size
            have q14_00 : w14.cell? ⟨w2.heap.size, 0, none⟩ = some (.int .i64 fa) := (by rw [hb14.cell (by first | omega | (simp; done) | (simp; omega))]; simp [go_sem, *])
            have q14_01 : w14.cell? ⟨w2.heap.size, 1, none⟩ = some (.int .i64 ft) := (by rw [hb14.cell (by first | omega | (simp; done) | (simp; omega))]; simp [go_sem, *])
            have hl14_1 : w3.heap.size < w14.heap.size := Nat.lt_of_lt_of_le (by first | omega | (simp; done) | (simp; omega)) hb14.size
            have q14_10 : w14.cell? ⟨w3.heap.size, 0, none⟩ = some (.int .i64 fa) := (by rw [hb14.cell (by first | omega | (simp; done) | (simp; omega))]; simp [go_sem, *])
            have q14_11 : w14.cell? ⟨w3.heap.size, 1, none⟩ = some (.int .i64 ft) := (by rw [hb14.cell (by first | omega | (simp; done) | (simp; omega))]; simp [go_sem, *])
            have hl14_2 : w4.heap.size < w14.heap.size := Nat.lt_of_lt_of_le (by first | omega | (simp; done) | (simp; omega)) hb14.size
            have q14_20 : w14.cell? ⟨w4.heap.size, 0, none⟩ = some (.int .i64 la) := (by rw [hb14.cell (by first | omega | (simp; done) | (simp; omega))]; simp [go_sem, *])
            have q14_21 : w14.cell? ⟨w4.heap.size, 1, none⟩ = some (.int .i64 lt) := (by rw [hb14.cell (by first | omega | (simp; done) | (simp; omega))]; simp [go_sem, *])
            have hl14_3 : w5.heap.size < w14.heap.size := Nat.lt_of_lt_of_le (by first | omega | (simp; done) | (simp; omega)) hb14.size
            have q14_30 : w14.cell? ⟨w5.heap.size, 0, none⟩ = some (.int .i64 la) := (by rw [hb14.cell (by first | omega | (simp; done) | (simp; omega))]; simp [go_sem, *])
            have q14_31 : w14.cell? ⟨w5.heap.size, 1, none⟩ = some (.int .i64 lt) := (by rw [hb14.cell (by first | omega | (simp; done) | (simp; omega))]; simp [go_sem, *])
            have hl14_4 : w11.heap.size < w14.heap.size := Nat.lt_of_lt_of_le (by first | omega | (simp; done) | (simp; omega)) hb14.size
            have q14_40 : w14.cell? ⟨w11.heap.size, 0, none⟩ = some (.int .i64 (1000 + 10 * v)) := (by rw [hb14.cell (by first | omega | (simp; done) | (simp; omega))]; simp [go_sem, *])
            have q14_41 : w14.cell? ⟨w11.heap.size, 1, none⟩ = some (.int .i64 t) := (by rw [hb14.cell (by first | omega | (simp; done) | (simp; omega))]; simp [go_sem, *])
            have hl14_5 : w12.heap.size < w14.heap.size := Nat.lt_of_lt_of_le (by first | omega | (simp; done) | (simp; omega)) hb14.size
            have q14_50 : w14.cell? ⟨w12.heap.size, 0, none⟩ = some (.int .i64 pl) := (by rw [hb14.cell (by first | omega | (simp; done) | (simp; omega))]; simp [go_sem, *])
            have q14_51 : w14.cell? ⟨w12.heap.size, 1, none⟩ = some (.int .i64 pu) := (by rw [hb14.cell (by first | omega | (simp; done) | (simp; omega))]; simp [go_sem, *])
            have B14 : Below w.heap.size w w14 := Below.trans (by repeat' (first | (with_reducible exact Below.refl _ _) | (with_reducible assumption) | (with_reducible refine Below.alloc ?_ ?_ _) | (with_reducible refine Below.drew ?_) | (with_reducible refine belowDraws ?_ _) | (with_reducible refine Below.setCell ?_ ?_ _) | omega | (simp; done) | (simp; omega))) (hb14.mono (by first | omega | (simp; done) | (simp; omega)))
            have hz14 := B14.size
            have S14 : Dice w14 bd A n c l := Dice.over (by repeat' (first | (with_reducible assumption) | (with_reducible refine Dice.alloc ?_ _) | (with_reducible refine Dice.drew ?_) | (with_reducible refine Dice.drewN ?_ _) | (with_reducible refine Dice.set ?_ ?_ _) | (first | omega | (simp; done) | (simp; omega)))) hb14
            have y14 := S14.inside
            clear q13_00 q13_01 q13_10 q13_11 q13_20 q13_21 q13_30 q13_31 q13_40 q13_41 q13_50 q13_51 hl13_0 hl13_1 hl13_2 hl13_3 hl13_4 hl13_5
            clear hb14
            clear MB CB
            go_wp2_with (go_at_call 32; (with_reducible refine (BT _).mono ?_); rintro e wB ⟨rfl, hbB⟩; have BB : Below w.heap.size w wB := Below.trans (by repeat' (first | (with_reducible exact Below.refl _ _) | (with_reducible assumption) | (with_reducible refine Below.alloc ?_ ?_ _) | (with_reducible refine Below.drew ?_) | (with_reducible refine belowDraws ?_ _) | (with_reducible refine Below.setCell ?_ ?_ _) | omega | (simp; done) | (simp; omega))) (hbB.mono (by first | omega | (simp; done) | (simp; omega))))
            all_goals go_ret
            all_goals exact ⟨endBool (by simp_all), by repeat' (first | (with_reducible exact Below.refl _ _) | (with_reducible assumption) | (with_reducible refine Below.alloc ?_ ?_ _) | (with_reducible refine Below.drew ?_) | (with_reducible refine belowDraws ?_ _) | (with_reducible refine Below.setCell ?_ ?_ _) | omega | (simp; done) | (simp; omega))⟩
          | false =>
            clear ho
            go_wp2_with fail
            refine (MB _).mono ?_
            rintro e w13 ⟨rfl, hb13⟩
            have hl13_0 : w2.heap.size < w13.heap.size := Nat.lt_of_lt_of_le (by first | omega | (simp; done) | (simp; omega)) hb13.size
            have q13_00 : w13.cell? ⟨w2.heap.size, 0, none⟩ = some (.int .i64 fa) := (by rw [hb13.cell (by first | omega | (simp; done) | (simp; omega))]; simp [go_sem, *])
            have q13_01 : w13.cell? ⟨w2.heap.size, 1, none⟩ = some (.int .i64 ft) := (by rw [hb13.cell (by first | omega | (simp; done) | (simp; omega))]; simp [go_sem, *])
            have hl13_1 : w3.heap.size < w13.heap.size := Nat.lt_of_lt_of_le (by first | omega | (simp; done) | (simp; omega)) hb13.size
            have q13_10 : w13.cell? ⟨w3.heap.size, 0, none⟩ = some (.int .i64 fa) := (by rw [hb13.cell (by first | omega | (simp; done) | (simp; omega))]; simp [go_sem, *])
            have q13_11 : w13.cell? ⟨w3.heap.size, 1, none⟩ = some (.int .i64 ft) := (by rw [hb13.cell (by first | omega | (simp; done) | (simp; omega))]; simp [go_sem, *])
            have hl13_2 : w4.heap.size < w13.heap.size := Nat.lt_of_lt_of_le (by first | omega | (simp; done) | (simp; omega)) hb13.size
            have q13_20 : w13.cell? ⟨w4.heap.size, 0, none⟩ = some (.int .i64 la) := (by rw [hb13.cell (by first | omega | (simp; done) | (simp; omega))]; simp [go_sem, *])
            have q13_21 : w13.cell? ⟨w4.heap.size, 1, none⟩ = some (.int .i64 lt) := (by rw [hb13.cell (by first | omega | (simp; done) | (simp; omega))]; simp [go_sem, *])
            have hl13_3 : w5.heap.size < w13.heap.size := Nat.lt_of_lt_of_le (by first | omega | (simp; done) | (simp; omega)) hb13.size
            have q13_30 : w13.cell? ⟨w5.heap.size, 0, none⟩ = some (.int .i64 la) := (by rw [hb13.cell (by first | omega | (simp; done) | (simp; omega))]; simp [go_sem, *])
            have q13_31 : w13.cell? ⟨w5.heap.size, 1, none⟩ = some (.int .i64 lt) := (by rw [hb13.cell (by first | omega | (simp; done) | (simp; omega))]; simp [go_sem, *])
            have hl13_4 : w11.heap.size < w13.heap.size := Nat.lt_of_lt_of_le (by first | omega | (simp; done) | (simp; omega)) hb13.size
            have q13_40 : w13.cell? ⟨w11.heap.size, 0, none⟩ = some (.int .i64 (1000 + 10 * v)) := (by rw [hb13.cell (by first | omega | (simp; done) | (simp; omega))]; simp [go_sem, *])
            have q13_41 : w13.cell? ⟨w11.heap.size, 1, none⟩ = some (.int .i64 t) := (by rw [hb13.cell (by first | omega | (simp; done) | (simp; omega))]; simp [go_sem, *])
            have hl13_5 : w12.heap.size < w13.heap.size := Nat.lt_of_lt_of_le (by first | omega | (simp; done) | (simp; omega)) hb13.size
            have q13_50 : w13.cell? ⟨w12.heap.size, 0, none⟩ = some (.int .i64 pl) := (by rw [hb13.cell (by first | omega | (simp; done) | (simp; omega))]; simp [go_sem, *])
            have q13_51 : w13.cell? ⟨w12.heap.size, 1, none⟩ = some (.int .i64 pu) := (by rw [hb13.cell (by first | omega | (simp; done) | (simp; omega))]; simp [go_sem, *])
            have B13 : Below w.heap.size w w13 := Below.trans (by repeat' (first | (with_reducible exact Below.refl _ _) | (with_reducible assumption) | (with_reducible refine Below.alloc ?_ ?_ _) | (with_reducible refine Below.drew ?_) | (with_reducible refine belowDraws ?_ _) | (with_reducible refine Below.setCell ?_ ?_ _) | omega | (simp; done) | (simp; omega))) (hb13.mono (by first | omega | (simp; done) | (simp; omega)))
            have hz13 := B13.size
            have S13 : Dice w13 bd A n c l := Dice.over (by repeat' (first | (with_reducible assumption) | (with_reducible refine Dice.alloc ?_ _) | (with_reducible refine Dice.drew ?_) | (with_reducible refine Dice.drewN ?_ _) | (with_reducible refine Dice.set ?_ ?_ _) | (first | omega | (simp; done) | (simp; omega)))) hb13
            have y13 := S13.inside
            clear q12_00 q12_01 q12_10 q12_11 q12_20 q12_21 q12_30 q12_31 q12_40 q12_41 hl12_0 hl12_1 hl12_2 hl12_3 hl12_4
            clear hb13
            go_wp2_with fail
            refine (CB _).mono ?_
            rintro e w14 ⟨rfl, hb14⟩
            have hl14_0 : w2.heap.size < w14.heap.size := Nat.lt_of_lt_of_le (by first | omega | (simp; done) | (simp; omega)) hb14.size
            have q14_00 : w14.cell? ⟨w2.heap.size, 0, none⟩ = some (.int .i64 fa) := (by rw [hb14.cell (by first | omega | (simp; done) | (simp; omega))]; simp [go_sem, *])
            have q14_01 : w14.cell? ⟨w2.heap.size, 1, none⟩ = some (.int .i64 ft) := (by rw [hb14.cell (by first | omega | (simp; done) | (simp; omega))]; simp [go_sem, *])
            have hl14_1 : w3.heap.size < w14.heap.size := Nat.lt_of_lt_of_le (by first | omega | (simp; done) | (simp; omega)) hb14.size
            have q14_10 : w14.cell? ⟨w3.heap.size, 0, none⟩ = some (.int .i64 fa) := (by rw [hb14.cell (by first | omega | (simp; done) | (simp; omega))]; simp [go_sem, *])
            have q14_11 : w14.cell? ⟨w3.heap.size, 1, none⟩ = some (.int .i64 ft) := (by rw [hb14.cell (by first | omega | (simp; done) | (simp; omega))]; simp [go_sem, *])
            have hl14_2 : w4.heap.size < w14.heap.size := Nat.lt_of_lt_of_le (by first | omega | (simp; done) | (simp; omega)) hb14.size
            have q14_20 : w14.cell? ⟨w4.heap.size, 0, none⟩ = some (.int .i64 la) := (by rw [hb14.cell (by first | omega | (simp; done) | (simp; omega))]; simp [go_sem, *])
            have q14_21 : w14.cell? ⟨w4.heap.size, 1, none⟩ = some (.int .i64 lt) := (by rw [hb14.cell (by first | omega | (simp; done) | (simp; omega))]; simp [go_sem, *])
            have hl14_3 : w5.heap.size < w14.heap.size := Nat.lt_of_lt_of_le (by first | omega | (simp; done) | (simp; omega)) hb14.size
            have q14_30 : w14.cell? ⟨w5.heap.size, 0, none⟩ = some (.int .i64 la) := (by rw [hb14.cell (by first | omega | (simp; done) | (simp; omega))]; simp [go_sem, *])
            have q14_31 : w14.cell? ⟨w5.heap.size, 1, none⟩ = some (.int .i64 lt) := (by rw [hb14.cell (by first | omega | (simp; done) | (simp; omega))]; simp [go_sem, *])
            have hl14_4 : w11.heap.size < w14.heap.size := Nat.lt_of_lt_of_le (by first | omega | (simp; done) | (simp; omega)) hb14.size
            have q14_40 : w14.cell? ⟨w11.heap.size, 0, none⟩ = some (.int .i64 (1000 + 10 * v)) := (by rw [hb14.cell (by first | omega | (simp; done) | (simp; omega))]; simp [go_sem, *])
            have q14_41 : w14.cell? ⟨w11.heap.size, 1, none⟩ = some (.int .i64 t) := (by rw [hb14.cell (by first | omega | (simp; done) | (simp; omega))]; simp [go_sem, *])
            have hl14_5 : w12.heap.size < w14.heap.size := Nat.lt_of_lt_of_le (by first | omega | (simp; done) | (simp; omega)) hb14.size
            have q14_50 : w14.cell? ⟨w12.heap.size, 0, none⟩ = some (.int .i64 pl) := (by rw [hb14.cell (by first | omega | (simp; done) | (simp; omega))]; simp [go_sem, *])
            have q14_51 : w14.cell? ⟨w12.heap.size, 1, none⟩ = some (.int .i64 pu) := (by rw [hb14.cell (by first | omega | (simp; done) | (simp; omega))]; simp [go_sem, *])
            have B14 : Below w.heap.size w w14 := Below.trans (by repeat' (first | (with_reducible exact Below.refl _ _) | (with_reducible assumption) | (with_reducible refine Below.alloc ?_ ?_ _) | (with_reducible refine Below.drew ?_) | (with_reducible refine belowDraws ?_ _) | (with_reducible refine Below.setCell ?_ ?_ _) | omega | (simp; done) | (simp; omega))) (hb14.mono (by first | omega | (simp; done) | (simp; omega)))
            have hz14 := B14.size
            have S14 : Dice w14 bd A n c l := Dice.over (by repeat' (first | (with_reducible assumption) | (with_reducible refine Dice.alloc ?_ _) | (with_reducible refine Dice.drew ?_) | (with_reducible refine Dice.drewN ?_ _) | (with_reducible refine Dice.set ?_ ?_ _) | (first | omega | (simp; done) | (simp; omega)))) hb14
            have y14 := S14.inside
            clear q13_00 q13_01 q13_10 q13_11 q13_20 q13_21 q13_30 q13_31 q13_40 q13_41 q13_50 q13_51 hl13_0 hl13_1 hl13_2 hl13_3 hl13_4 hl13_5
            clear hb14
            clear MB CB
            go_wp2_with (go_at_call 32; (with_reducible refine (BT _).mono ?_); rintro e wB ⟨rfl, hbB⟩; have BB : Below w.heap.size w wB := Below.trans (by repeat' (first | (with_reducible exact Below.refl _ _) | (with_reducible assumption) | (with_reducible refine Below.alloc ?_ ?_ _) | (with_reducible refine Below.drew ?_) | (with_reducible refine belowDraws ?_ _) | (with_reducible refine Below.setCell ?_ ?_ _) | omega | (simp; done) | (simp; omega))) (hbB.mono (by first | omega | (simp; done) | (simp; omega))))
            all_goals go_ret
            all_goals exact ⟨endBool (by simp_all), by repeat' (first | (with_reducible exact Below.refl _ _) | (with_reducible assumption) | (with_reducible refine Below.alloc ?_ ?_ _) | (with_reducible refine Below.drew ?_) | (with_reducible refine belowDraws ?_ _) | (with_reducible refine Below.setCell ?_ ?_ _) | omega | (simp; done) | (simp; omega))⟩
    · obtain ⟨e1, e2, e3⟩ := rd_out (by simpa using hp)
      have I1 := fun W => iFirstReading_any s len pt eye W
      have S1 := fun W => sFirstReading_any s len pt eye W
      have I2 := fun W => iLastReading_any s len pt eye W
      have S2 := fun W => sLastReading_any s len pt eye W
      have I3 := fun W => iCountReadings_any s len pt eye W
      have S3 := fun W => sCountReadings_any s len pt eye W
      rw [e1] at I1 S1
      rw [e2] at I2 S2
      rw [e3] at I3 S3
      simp only [endFC] at I1 S1 I2 S2
      clear hp e1 e2 e3
      go_wp2_with fail
      refine (I1 _).mono ?_
      rintro e w2 ⟨rfl, hb2⟩
      have B2 : Below w.heap.size w w2 := Below.trans (by repeat' (first | (with_reducible exact Below.refl _ _) | (with_reducible assumption) | (with_reducible refine Below.alloc ?_ ?_ _) | (with_reducible refine Below.drew ?_) | (with_reducible refine belowDraws ?_ _) | (with_reducible refine Below.setCell ?_ ?_ _) | omega | (simp; done) | (simp; omega))) (hb2.mono (by first | omega | (simp; done) | (simp; omega)))
      have hz2 := B2.size
      clear hb2
      go_wp2_with fail
      refine (S1 _).mono ?_
      rintro e w3 ⟨rfl, hb3⟩
      have hl3_0 : w2.heap.size < w3.heap.size := Nat.lt_of_lt_of_le (by first | omega | (simp; done) | (simp; omega)) hb3.size
      have q3_00 : w3.cell? ⟨w2.heap.size, 0, none⟩ = some (.int .i64 0) := (by rw [hb3.cell (by first | omega | (simp; done) | (simp; omega))]; simp [go_sem, *])
      have q3_01 : w3.cell? ⟨w2.heap.size, 1, none⟩ = some (.int .i64 0) := (by rw [hb3.cell (by first | omega | (simp; done) | (simp; omega))]; simp [go_sem, *])
      have B3 : Below w.heap.size w w3 := Below.trans (by repeat' (first | (with_reducible exact Below.refl _ _) | (with_reducible assumption) | (with_reducible refine Below.alloc ?_ ?_ _) | (with_reducible refine Below.drew ?_) | (with_reducible refine belowDraws ?_ _) | (with_reducible refine Below.setCell ?_ ?_ _) | omega | (simp; done) | (simp; omega))) (hb3.mono (by first | omega | (simp; done) | (simp; omega)))
      have hz3 := B3.size
      clear hb3
      go_wp2_with fail
      refine (I2 _).mono ?_
      rintro e w4 ⟨rfl, hb4⟩
      have hl4_0 : w2.heap.size < w4.heap.size := Nat.lt_of_lt_of_le (by first | omega | (simp; done) | (simp; omega)) hb4.size
      have q4_00 : w4.cell? ⟨w2.heap.size, 0, none⟩ = some (.int .i64 0) := (by rw [hb4.cell (by first | omega | (simp; done) | (simp; omega))]; simp [go_sem, *])
      have q4_01 : w4.cell? ⟨w2.heap.size, 1, none⟩ = some (.int .i64 0) := (by rw [hb4.cell (by first | omega | (simp; done) | (simp; omega))]; simp [go_sem, *])
      have hl4_1 : w3.heap.size < w4.heap.size := Nat.lt_of_lt_of_le (by first | omega | (simp; done) | (simp; omega)) hb4.size
      have q4_10 : w4.cell? ⟨w3.heap.size, 0, none⟩ = some (.int .i64 0) := (by rw [hb4.cell (by first | omega | (simp; done) | (simp; omega))]; simp [go_sem, *])
      have q4_11 : w4.cell? ⟨w3.heap.size, 1, none⟩ = some (.int .i64 0) := (by rw [hb4.cell (by first | omega | (simp; done) | (simp; omega))]; simp [go_sem, *])
      have B4 : Below w.heap.size w w4 := Below.trans (by repeat' (first | (with_reducible exact Below.refl _ _) | (with_reducible assumption) | (with_reducible refine Below.alloc ?_ ?_ _) | (with_reducible refine Below.drew ?_) | (with_reducible refine belowDraws ?_ _) | (with_reducible refine Below.setCell ?_ ?_ _) | omega | (simp; done) | (simp; omega))) (hb4.mono (by first | omega | (simp; done) | (simp; omega)))
      have hz4 := B4.size
      clear q3_00 q3_01 hl3_0
      clear hb4
      go_wp2_with fail
      refine (S2 _).mono ?_
      rintro e w5 ⟨rfl, hb5⟩
      have hl5_0 : w2.heap.size < w5.heap.size := Nat.lt_of_lt_of_le (by first | omega | (simp; done) | (simp; omega)) hb5.size
      have q5_00 : w5.cell? ⟨w2.heap.size, 0, none⟩ = some (.int .i64 0) := (by rw [hb5.cell (by first | omega | (simp; done) | (simp; omega))]; simp [go_sem, *])
      have q5_01 : w5.cell? ⟨w2.heap.size, 1, none⟩ = some (.int .i64 0) := (by rw [hb5.cell (by first | omega | (simp; done) | (simp; omega))]; simp [go_sem, *])
      have hl5_1 : w3.heap.size < w5.heap.size := Nat.lt_of_lt_of_le (by first | omega | (simp; done) | (simp; omega)) hb5.size
      have q5_10 : w5.cell? ⟨w3.heap.size, 0, none⟩ = some (.int .i64 0) := (by rw [hb5.cell (by first | omega | (simp; done) | (simp; omega))]; simp [go_sem, *])
      have q5_11 : w5.cell? ⟨w3.heap.size, 1, none⟩ = some (.int .i64 0) := (by rw [hb5.cell (by first | omega | (simp; done) | (simp; omega))]; simp [go_sem, *])
      have hl5_2 : w4.heap.size < w5.heap.size := Nat.lt_of_lt_of_le (by first | omega | (simp; done) | (simp; omega)) hb5.size
      have q5_20 : w5.cell? ⟨w4.heap.size, 0, none⟩ = some (.int .i64 0) := (by rw [hb5.cell (by first | omega | (simp; done) | (simp; omega))]; simp [go_sem, *])
      have q5_21 : w5.cell? ⟨w4.heap.size, 1, none⟩ = some (.int .i64 0) := (by rw [hb5.cell (by first | omega | (simp; done) | (simp; omega))]; simp [go_sem, *])
      have B5 : Below w.heap.size w w5 := Below.trans (by repeat' (first | (with_reducible exact Below.refl _ _) | (with_reducible assumption) | (with_reducible refine Below.alloc ?_ ?_ _) | (with_reducible refine Below.drew ?_) | (with_reducible refine belowDraws ?_ _) | (with_reducible refine Below.setCell ?_ ?_ _) | omega | (simp; done) | (simp; omega))) (hb5.mono (by first | omega | (simp; done) | (simp; omega)))
      have hz5 := B5.size
      clear q4_00 q4_01 q4_10 q4_11 hl4_0 hl4_1
      clear hb5
      go_wp2_with fail
      refine (I3 _).mono ?_
      rintro e w6 ⟨rfl, hb6⟩
      have hl6_0 : w2.heap.size < w6.heap.size := Nat.lt_of_lt_of_le (by first | omega | (simp; done) | (simp; omega)) hb6.size
      have q6_00 : w6.cell? ⟨w2.heap.size, 0, none⟩ = some (.int .i64 0) := (by rw [hb6.cell (by first | omega | (simp; done) | (simp; omega))]; simp [go_sem, *])
      have q6_01 : w6.cell? ⟨w2.heap.size, 1, none⟩ = some (.int .i64 0) := (by rw [hb6.cell (by first | omega | (simp; done) | (simp; omega))]; simp [go_sem, *])
      have hl6_1 : w3.heap.size < w6.heap.size := Nat.lt_of_lt_of_le (by first | omega | (simp; done) | (simp; omega)) hb6.size
      have q6_10 : w6.cell? ⟨w3.heap.size, 0, none⟩ = some (.int .i64 0) := (by rw [hb6.cell (by first | omega | (simp; done) | (simp; omega))]; simp [go_sem, *])
      have q6_11 : w6.cell? ⟨w3.heap.size, 1, none⟩ = some (.int .i64 0) := (by rw [hb6.cell (by first | omega | (simp; done) | (simp; omega))]; simp [go_sem, *])
      have hl6_2 : w4.heap.size < w6.heap.size := Nat.lt_of_lt_of_le (by first | omega | (simp; done) | (simp; omega)) hb6.size
      have q6_20 : w6.cell? ⟨w4.heap.size, 0, none⟩ = some (.int .i64 0) := (by rw [hb6.cell (by first | omega | (simp; done) | (simp; omega))]; simp [go_sem, *])
      have q6_21 : w6.cell? ⟨w4.heap.size, 1, none⟩ = some (.int .i64 0) := (by rw [hb6.cell (by first | omega | (simp; done) | (simp; omega))]; simp [go_sem, *])
      have hl6_3 : w5.heap.size < w6.heap.size := Nat.lt_of_lt_of_le (by first | omega | (simp; done) | (simp; omega)) hb6.size
      have q6_30 : w6.cell? ⟨w5.heap.size, 0, none⟩ = some (.int .i64 0) := (by rw [hb6.cell (by first | omega | (simp; done) | (simp; omega))]; simp [go_sem, *])
      have q6_31 : w6.cell? ⟨w5.heap.size, 1, none⟩ = some (.int .i64 0) := (by rw [hb6.cell (by first | omega | (simp; done) | (simp; omega))]; simp [go_sem, *])
      have B6 : Below w.heap.size w w6 := Below.trans (by repeat' (first | (with_reducible exact Below.refl _ _) | (with_reducible assumption) | (with_reducible refine Below.alloc ?_ ?_ _) | (with_reducible refine Below.drew ?_) | (with_reducible refine belowDraws ?_ _) | (with_reducible refine Below.setCell ?_ ?_ _) | omega | (simp; done) | (simp; omega))) (hb6.mono (by first | omega | (simp; done) | (simp; omega)))
      have hz6 := B6.size
      clear q5_00 q5_01 q5_10 q5_11 q5_20 q5_21 hl5_0 hl5_1 hl5_2
      clear hb6
      go_wp2_with fail
      refine (S3 _).mono ?_
      rintro e w7 ⟨rfl, hb7⟩
      have hl7_0 : w2.heap.size < w7.heap.size := Nat.lt_of_lt_of_le (by first | omega | (simp; done) | (simp; omega)) hb7.size
      have q7_00 : w7.cell? ⟨w2.heap.size, 0, none⟩ = some (.int .i64 0) := (by rw [hb7.cell (by first | omega | (simp; done) | (simp; omega))]; simp [go_sem, *])
      have q7_01 : w7.cell? ⟨w2.heap.size, 1, none⟩ = some (.int .i64 0) := (by rw [hb7.cell (by first | omega | (simp; done) | (simp; omega))]; simp [go_sem, *])
      have hl7_1 : w3.heap.size < w7.heap.size := Nat.lt_of_lt_of_le (by first | omega | (simp; done) | (simp; omega)) hb7.size
      have q7_10 : w7.cell? ⟨w3.heap.size, 0, none⟩ = some (.int .i64 0) := (by rw [hb7.cell (by first | omega | (simp; done) | (simp; omega))]; simp [go_sem, *])
      have q7_11 : w7.cell? ⟨w3.heap.size, 1, none⟩ = some (.int .i64 0) := (by rw [hb7.cell (by first | omega | (simp; done) | (simp; omega))]; simp [go_sem, *])
      have hl7_2 : w4.heap.size < w7.heap.size := Nat.lt_of_lt_of_le (by first | omega | (simp; done) | (simp; omega)) hb7.size
      have q7_20 : w7.cell? ⟨w4.heap.size, 0, none⟩ = some (.int .i64 0) := (by rw [hb7.cell (by first | omega | (simp; done) | (simp; omega))]; simp [go_sem, *])
      have q7_21 : w7.cell? ⟨w4.heap.size, 1, none⟩ = some (.int .i64 0) := (by rw [hb7.cell (by first | omega | (simp; done) | (simp; omega))]; simp [go_sem, *])
      have hl7_3 : w5.heap.size < w7.heap.size := Nat.lt_of_lt_of_le (by first | omega | (simp; done) | (simp; omega)) hb7.size
      have q7_30 : w7.cell? ⟨w5.heap.size, 0, none⟩ = some (.int .i64 0) := (by rw [hb7.cell (by first | omega | (simp; done) | (simp; omega))]; simp [go_sem, *])
      have q7_31 : w7.cell? ⟨w5.heap.size, 1, none⟩ = some (.int .i64 0) := (by rw [hb7.cell (by first | omega | (simp; done) | (simp; omega))]; simp [go_sem, *])
      have B7 : Below w.heap.size w w7 := Below.trans (by repeat' (first | (with_reducible exact Below.refl _ _) | (with_reducible assumption) | (with_reducible refine Below.alloc ?_ ?_ _) | (with_reducible refine Below.drew ?_) | (with_reducible refine belowDraws ?_ _) | (with_reducible refine Below.setCell ?_ ?_ _) | omega | (simp; done) | (simp; omega))) (hb7.mono (by first | omega | (simp; done) | (simp; omega)))
      have hz7 := B7.size
      clear q6_00 q6_01 q6_10 q6_11 q6_20 q6_21 q6_30 q6_31 hl6_0 hl6_1 hl6_2 hl6_3
      clear hb7
      clear I1 S1 I2 S2 I3 S3
      go_wp2_with fail
      all_goals go_ret
      all_goals exact ⟨endBool (by simp_all), by repeat' (first | (with_reducible exact Below.refl _ _) | (with_reducible assumption) | (with_reducible refine Below.alloc ?_ ?_ _) | (with_reducible refine Below.drew ?_) | (with_reducible refine belowDraws ?_ _) | (with_reducible refine Below.setCell ?_ ?_ _) | omega | (simp; done) | (simp; omega))⟩
end Go.Proofs.Ythnjiiodpjielaa
