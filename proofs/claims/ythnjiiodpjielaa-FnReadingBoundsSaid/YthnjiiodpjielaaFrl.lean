/- The law FnReadingBounds (layer 10). No condition. -/
import Derived.Test.YthnjiiodpjielaaFr0
import Derived.Test.YthnjiiodpjielaaCf
import Derived.Test.YthnjiiodpjielaaDr8
import Derived.Test.YthnjiiodpjielaaWd
import Derived.Test.YthnjiiodpjielaaErr4
import Derived.Test.YthnjiiodpjielaaLike
namespace Go.Proofs.Ythnjiiodpjielaa
open Go.RowKit
set_option linter.unusedVariables false
set_option linter.unusedSimpArgs false

theorem worstUp_bd (u : Int) : ∀ k : Nat, 0 ≤ worstUp u k ∧ worstUp u k ≤ (k : Int)
  | 0 => by simp [worstUp]
  | k + 1 => by
    have := worstUp_bd u k
    rw [worstUp]
    split <;> omega
theorem rWorst_bd {s l a b c d : Int} (h : rWorst s l a b c = (d, 0)) : 0 ≤ d ∧ d ≤ 4 := by
  rw [rWorst] at h
  split at h
  · simp only [Prod.mk.injEq, and_true] at h
    have := worstUp_bd (rUnits s l a b c).1 4
    omega
  · rename_i h2
    simp only [Prod.mk.injEq] at h
    exact absurd h.2 h2
set_option maxRecDepth 100000 in
set_option maxHeartbeats 16000000 in
theorem fnReadingBounds_walk (A : Option Addr) (n c : Nat) (l : List Int) (w : World) (hl : l.length = n) (_hc : n ≤ c) (hm : c ≤ maxLen) (hs : Sees w w.heap.size A (l.map (Value.int .u8))) (h8 : U8s l) :
    Calls Try.prog 6 #[.slice A n c] w fun e w' => e = .returned (.bool true) ∧ Below w.heap.size w w' := by
  unfold maxLen at hm
  have BG := fun W => big_small A n c W (by omega)
  by_cases hbig : 4096 < n
  · rw [show decide (4096 < n) = true from decide_eq_true hbig] at BG
    go_enter Try.func6, Try.ntmps6
    go_wp2_with (go_at_call 8; refine (BG _).mono ?_; rintro e w' ⟨rfl, rfl⟩)
    go_ret
    exact ⟨rfl, Below.refl _ _⟩
  · rw [show decide (4096 < n) = false from decide_eq_false hbig] at BG
    have hn : n ≤ 1048576 := by omega
    go_enter Try.func6, Try.ntmps6
    go_wp2_with (go_at_call 8; refine (BG _).mono ?_; rintro e w' ⟨rfl, rfl⟩)
    clear BG
    go_wp2_with fail
    refine (DrawSpreadFigure_any A n c l _ hl hn h8 ?_).mono ?_
    · first | exact hs | exact (hs.over (by repeat' (first | (with_reducible exact Below.refl _ _) | (with_reducible assumption) | (with_reducible refine Below.alloc ?_ ?_ _) | (with_reducible refine Below.drew ?_) | (with_reducible refine belowDraws ?_ _) | (with_reducible refine Below.setCell ?_ ?_ _) | omega | (simp; done) | (simp; omega)))).wider (by first | omega | (simp; done) | (simp; omega))
    rintro e w1 ⟨d, t, un, rfl, hb1⟩
    have B1 : Below w.heap.size w w1 := Below.trans (by repeat' (first | (with_reducible exact Below.refl _ _) | (with_reducible assumption) | (with_reducible refine Below.alloc ?_ ?_ _) | (with_reducible refine Below.drew ?_) | (with_reducible refine belowDraws ?_ _) | (with_reducible refine Below.setCell ?_ ?_ _) | omega | (simp; done) | (simp; omega))) (hb1.mono (by first | omega | (simp; done) | (simp; omega)))
    have hz1 := B1.size
    clear hb1
    have I1 := fun W => iSpreadFigure_any d t un W
    have S1 := fun W => sSpreadFigure_any d t un W
    obtain ⟨⟨⟨p, q⟩, ⟨r, v⟩, bad⟩, H1⟩ : ∃ p, Hid (rSpread d t un = p) := ⟨_, Lib.hid rfl⟩
    rw [H1.out] at I1 S1
    simp only [end2F] at I1 S1
    go_wp2_with fail
    refine (I1 _).mono ?_
    rintro e w2 ⟨rfl, hb2⟩
    have hl2_0 : w1.heap.size < w2.heap.size := Nat.lt_of_lt_of_le (by first | omega | (simp; done) | (simp; omega)) hb2.size
    have q2_00 : w2.cell? ⟨w1.heap.size, 0, none⟩ = some (.int .i64 d) := (by rw [hb2.cell (by first | omega | (simp; done) | (simp; omega))]; simp [go_sem, *])
    have q2_01 : w2.cell? ⟨w1.heap.size, 1, none⟩ = some (.int .i64 t) := (by rw [hb2.cell (by first | omega | (simp; done) | (simp; omega))]; simp [go_sem, *])
    have B2 : Below w.heap.size w w2 := Below.trans (by repeat' (first | (with_reducible exact Below.refl _ _) | (with_reducible assumption) | (with_reducible refine Below.alloc ?_ ?_ _) | (with_reducible refine Below.drew ?_) | (with_reducible refine belowDraws ?_ _) | (with_reducible refine Below.setCell ?_ ?_ _) | omega | (simp; done) | (simp; omega))) (hb2.mono (by first | omega | (simp; done) | (simp; omega)))
    have hz2 := B2.size
    clear hb2
    go_wp2_with fail
    refine (S1 _).mono ?_
    rintro e w3 ⟨rfl, hb3⟩
    have hl3_0 : w1.heap.size < w3.heap.size := Nat.lt_of_lt_of_le (by first | omega | (simp; done) | (simp; omega)) hb3.size
    have q3_00 : w3.cell? ⟨w1.heap.size, 0, none⟩ = some (.int .i64 d) := (by rw [hb3.cell (by first | omega | (simp; done) | (simp; omega))]; simp [go_sem, *])
    have q3_01 : w3.cell? ⟨w1.heap.size, 1, none⟩ = some (.int .i64 t) := (by rw [hb3.cell (by first | omega | (simp; done) | (simp; omega))]; simp [go_sem, *])
    have hl3_1 : w2.heap.size < w3.heap.size := Nat.lt_of_lt_of_le (by first | omega | (simp; done) | (simp; omega)) hb3.size
    have q3_10 : w3.cell? ⟨w2.heap.size, 0, none⟩ = some (.int .i64 p) := (by rw [hb3.cell (by first | omega | (simp; done) | (simp; omega))]; simp [go_sem, *])
    have q3_11 : w3.cell? ⟨w2.heap.size, 1, none⟩ = some (.int .i64 q) := (by rw [hb3.cell (by first | omega | (simp; done) | (simp; omega))]; simp [go_sem, *])
    have hl3_2 : w2.heap.size + 1 < w3.heap.size := Nat.lt_of_lt_of_le (by first | omega | (simp; done) | (simp; omega)) hb3.size
    have q3_20 : w3.cell? ⟨w2.heap.size + 1, 0, none⟩ = some (.int .i64 r) := (by rw [hb3.cell (by first | omega | (simp; done) | (simp; omega))]; simp [go_sem, *])
    have q3_21 : w3.cell? ⟨w2.heap.size + 1, 1, none⟩ = some (.int .i64 v) := (by rw [hb3.cell (by first | omega | (simp; done) | (simp; omega))]; simp [go_sem, *])
    have B3 : Below w.heap.size w w3 := Below.trans (by repeat' (first | (with_reducible exact Below.refl _ _) | (with_reducible assumption) | (with_reducible refine Below.alloc ?_ ?_ _) | (with_reducible refine Below.drew ?_) | (with_reducible refine belowDraws ?_ _) | (with_reducible refine Below.setCell ?_ ?_ _) | omega | (simp; done) | (simp; omega))) (hb3.mono (by first | omega | (simp; done) | (simp; omega)))
    have hz3 := B3.size
    clear q2_00 q2_01 hl2_0
    clear hb3
    go_wp2_with fail
    refine (DrawReadingBound_any A n c l _ hl hn h8 ?_).mono ?_
    · first | exact hs | exact (hs.over (by repeat' (first | (with_reducible exact Below.refl _ _) | (with_reducible assumption) | (with_reducible refine Below.alloc ?_ ?_ _) | (with_reducible refine Below.drew ?_) | (with_reducible refine belowDraws ?_ _) | (with_reducible refine Below.setCell ?_ ?_ _) | omega | (simp; done) | (simp; omega)))).wider (by first | omega | (simp; done) | (simp; omega))
    rintro e w4 ⟨sc, len, x, y, z, dd, tt, rfl, hb4⟩
    have hl4_0 : w1.heap.size < w4.heap.size := Nat.lt_of_lt_of_le (by first | omega | (simp; done) | (simp; omega)) hb4.size
    have q4_00 : w4.cell? ⟨w1.heap.size, 0, none⟩ = some (.int .i64 d) := (by rw [hb4.cell (by first | omega | (simp; done) | (simp; omega))]; simp [go_sem, *])
    have q4_01 : w4.cell? ⟨w1.heap.size, 1, none⟩ = some (.int .i64 t) := (by rw [hb4.cell (by first | omega | (simp; done) | (simp; omega))]; simp [go_sem, *])
    have hl4_1 : w2.heap.size < w4.heap.size := Nat.lt_of_lt_of_le (by first | omega | (simp; done) | (simp; omega)) hb4.size
    have q4_10 : w4.cell? ⟨w2.heap.size, 0, none⟩ = some (.int .i64 p) := (by rw [hb4.cell (by first | omega | (simp; done) | (simp; omega))]; simp [go_sem, *])
    have q4_11 : w4.cell? ⟨w2.heap.size, 1, none⟩ = some (.int .i64 q) := (by rw [hb4.cell (by first | omega | (simp; done) | (simp; omega))]; simp [go_sem, *])
    have hl4_2 : w2.heap.size + 1 < w4.heap.size := Nat.lt_of_lt_of_le (by first | omega | (simp; done) | (simp; omega)) hb4.size
    have q4_20 : w4.cell? ⟨w2.heap.size + 1, 0, none⟩ = some (.int .i64 r) := (by rw [hb4.cell (by first | omega | (simp; done) | (simp; omega))]; simp [go_sem, *])
    have q4_21 : w4.cell? ⟨w2.heap.size + 1, 1, none⟩ = some (.int .i64 v) := (by rw [hb4.cell (by first | omega | (simp; done) | (simp; omega))]; simp [go_sem, *])
    have hl4_3 : w3.heap.size < w4.heap.size := Nat.lt_of_lt_of_le (by first | omega | (simp; done) | (simp; omega)) hb4.size
    have q4_30 : w4.cell? ⟨w3.heap.size, 0, none⟩ = some (.int .i64 p) := (by rw [hb4.cell (by first | omega | (simp; done) | (simp; omega))]; simp [go_sem, *])
    have q4_31 : w4.cell? ⟨w3.heap.size, 1, none⟩ = some (.int .i64 q) := (by rw [hb4.cell (by first | omega | (simp; done) | (simp; omega))]; simp [go_sem, *])
    have hl4_4 : w3.heap.size + 1 < w4.heap.size := Nat.lt_of_lt_of_le (by first | omega | (simp; done) | (simp; omega)) hb4.size
    have q4_40 : w4.cell? ⟨w3.heap.size + 1, 0, none⟩ = some (.int .i64 r) := (by rw [hb4.cell (by first | omega | (simp; done) | (simp; omega))]; simp [go_sem, *])
    have q4_41 : w4.cell? ⟨w3.heap.size + 1, 1, none⟩ = some (.int .i64 v) := (by rw [hb4.cell (by first | omega | (simp; done) | (simp; omega))]; simp [go_sem, *])
    have B4 : Below w.heap.size w w4 := Below.trans (by repeat' (first | (with_reducible exact Below.refl _ _) | (with_reducible assumption) | (with_reducible refine Below.alloc ?_ ?_ _) | (with_reducible refine Below.drew ?_) | (with_reducible refine belowDraws ?_ _) | (with_reducible refine Below.setCell ?_ ?_ _) | omega | (simp; done) | (simp; omega))) (hb4.mono (by first | omega | (simp; done) | (simp; omega)))
    have hz4 := B4.size
    clear q3_00 q3_01 q3_10 q3_11 q3_20 q3_21 hl3_0 hl3_1 hl3_2
    clear hb4
    have I2 := fun W => iReadingBound_any sc len x y z dd tt W
    have S2 := fun W => sReadingBound_any sc len x y z dd tt W
    obtain ⟨⟨nb, one⟩, H2⟩ : ∃ p, Hid (rBound sc len x y z dd tt = p) := ⟨_, Lib.hid rfl⟩
    rw [H2.out] at I2 S2
    simp only [end2F] at I2 S2
    go_wp2_with fail
    refine (I2 _).mono ?_
    rintro e w5 ⟨rfl, hb5⟩
    have hl5_0 : w1.heap.size < w5.heap.size := Nat.lt_of_lt_of_le (by first | omega | (simp; done) | (simp; omega)) hb5.size
    have q5_00 : w5.cell? ⟨w1.heap.size, 0, none⟩ = some (.int .i64 d) := (by rw [hb5.cell (by first | omega | (simp; done) | (simp; omega))]; simp [go_sem, *])
    have q5_01 : w5.cell? ⟨w1.heap.size, 1, none⟩ = some (.int .i64 t) := (by rw [hb5.cell (by first | omega | (simp; done) | (simp; omega))]; simp [go_sem, *])
    have hl5_1 : w2.heap.size < w5.heap.size := Nat.lt_of_lt_of_le (by first | omega | (simp; done) | (simp; omega)) hb5.size
    have q5_10 : w5.cell? ⟨w2.heap.size, 0, none⟩ = some (.int .i64 p) := (by rw [hb5.cell (by first | omega | (simp; done) | (simp; omega))]; simp [go_sem, *])
    have q5_11 : w5.cell? ⟨w2.heap.size, 1, none⟩ = some (.int .i64 q) := (by rw [hb5.cell (by first | omega | (simp; done) | (simp; omega))]; simp [go_sem, *])
    have hl5_2 : w2.heap.size + 1 < w5.heap.size := Nat.lt_of_lt_of_le (by first | omega | (simp; done) | (simp; omega)) hb5.size
    have q5_20 : w5.cell? ⟨w2.heap.size + 1, 0, none⟩ = some (.int .i64 r) := (by rw [hb5.cell (by first | omega | (simp; done) | (simp; omega))]; simp [go_sem, *])
    have q5_21 : w5.cell? ⟨w2.heap.size + 1, 1, none⟩ = some (.int .i64 v) := (by rw [hb5.cell (by first | omega | (simp; done) | (simp; omega))]; simp [go_sem, *])
    have hl5_3 : w3.heap.size < w5.heap.size := Nat.lt_of_lt_of_le (by first | omega | (simp; done) | (simp; omega)) hb5.size
    have q5_30 : w5.cell? ⟨w3.heap.size, 0, none⟩ = some (.int .i64 p) := (by rw [hb5.cell (by first | omega | (simp; done) | (simp; omega))]; simp [go_sem, *])
    have q5_31 : w5.cell? ⟨w3.heap.size, 1, none⟩ = some (.int .i64 q) := (by rw [hb5.cell (by first | omega | (simp; done) | (simp; omega))]; simp [go_sem, *])
    have hl5_4 : w3.heap.size + 1 < w5.heap.size := Nat.lt_of_lt_of_le (by first | omega | (simp; done) | (simp; omega)) hb5.size
    have q5_40 : w5.cell? ⟨w3.heap.size + 1, 0, none⟩ = some (.int .i64 r) := (by rw [hb5.cell (by first | omega | (simp; done) | (simp; omega))]; simp [go_sem, *])
    have q5_41 : w5.cell? ⟨w3.heap.size + 1, 1, none⟩ = some (.int .i64 v) := (by rw [hb5.cell (by first | omega | (simp; done) | (simp; omega))]; simp [go_sem, *])
    have hl5_5 : w4.heap.size < w5.heap.size := Nat.lt_of_lt_of_le (by first | omega | (simp; done) | (simp; omega)) hb5.size
    have q5_50 : w5.cell? ⟨w4.heap.size, 0, none⟩ = some (.int .i64 x) := (by rw [hb5.cell (by first | omega | (simp; done) | (simp; omega))]; simp [go_sem, *])
    have q5_51 : w5.cell? ⟨w4.heap.size, 1, none⟩ = some (.int .i64 y) := (by rw [hb5.cell (by first | omega | (simp; done) | (simp; omega))]; simp [go_sem, *])
    have q5_52 : w5.cell? ⟨w4.heap.size, 2, none⟩ = some (.int .i64 z) := (by rw [hb5.cell (by first | omega | (simp; done) | (simp; omega))]; simp [go_sem, *])
    have hl5_6 : w4.heap.size + 1 < w5.heap.size := Nat.lt_of_lt_of_le (by first | omega | (simp; done) | (simp; omega)) hb5.size
    have q5_60 : w5.cell? ⟨w4.heap.size + 1, 0, none⟩ = some (.int .i64 dd) := (by rw [hb5.cell (by first | omega | (simp; done) | (simp; omega))]; simp [go_sem, *])
    have q5_61 : w5.cell? ⟨w4.heap.size + 1, 1, none⟩ = some (.int .i64 tt) := (by rw [hb5.cell (by first | omega | (simp; done) | (simp; omega))]; simp [go_sem, *])
    have B5 : Below w.heap.size w w5 := Below.trans (by repeat' (first | (with_reducible exact Below.refl _ _) | (with_reducible assumption) | (with_reducible refine Below.alloc ?_ ?_ _) | (with_reducible refine Below.drew ?_) | (with_reducible refine belowDraws ?_ _) | (with_reducible refine Below.setCell ?_ ?_ _) | omega | (simp; done) | (simp; omega))) (hb5.mono (by first | omega | (simp; done) | (simp; omega)))
    have hz5 := B5.size
    clear q4_00 q4_01 q4_10 q4_11 q4_20 q4_21 q4_30 q4_31 q4_40 q4_41 hl4_0 hl4_1 hl4_2 hl4_3 hl4_4
    clear hb5
    go_wp2_with fail
    refine (S2 _).mono ?_
    rintro e w6 ⟨rfl, hb6⟩
    have hl6_0 : w1.heap.size < w6.heap.size := Nat.lt_of_lt_of_le (by first | omega | (simp; done) | (simp; omega)) hb6.size
    have q6_00 : w6.cell? ⟨w1.heap.size, 0, none⟩ = some (.int .i64 d) := (by rw [hb6.cell (by first | omega | (simp; done) | (simp; omega))]; simp [go_sem, *])
    have q6_01 : w6.cell? ⟨w1.heap.size, 1, none⟩ = some (.int .i64 t) := (by rw [hb6.cell (by first | omega | (simp; done) | (simp; omega))]; simp [go_sem, *])
    have hl6_1 : w2.heap.size < w6.heap.size := Nat.lt_of_lt_of_le (by first | omega | (simp; done) | (simp; omega)) hb6.size
    have q6_10 : w6.cell? ⟨w2.heap.size, 0, none⟩ = some (.int .i64 p) := (by rw [hb6.cell (by first | omega | (simp; done) | (simp; omega))]; simp [go_sem, *])
    have q6_11 : w6.cell? ⟨w2.heap.size, 1, none⟩ = some (.int .i64 q) := (by rw [hb6.cell (by first | omega | (simp; done) | (simp; omega))]; simp [go_sem, *])
    have hl6_2 : w2.heap.size + 1 < w6.heap.size := Nat.lt_of_lt_of_le (by first | omega | (simp; done) | (simp; omega)) hb6.size
    have q6_20 : w6.cell? ⟨w2.heap.size + 1, 0, none⟩ = some (.int .i64 r) := (by rw [hb6.cell (by first | omega | (simp; done) | (simp; omega))]; simp [go_sem, *])
    have q6_21 : w6.cell? ⟨w2.heap.size + 1, 1, none⟩ = some (.int .i64 v) := (by rw [hb6.cell (by first | omega | (simp; done) | (simp; omega))]; simp [go_sem, *])
    have hl6_3 : w3.heap.size < w6.heap.size := Nat.lt_of_lt_of_le (by first | omega | (simp; done) | (simp; omega)) hb6.size
    have q6_30 : w6.cell? ⟨w3.heap.size, 0, none⟩ = some (.int .i64 p) := (by rw [hb6.cell (by first | omega | (simp; done) | (simp; omega))]; simp [go_sem, *])
    have q6_31 : w6.cell? ⟨w3.heap.size, 1, none⟩ = some (.int .i64 q) := (by rw [hb6.cell (by first | omega | (simp; done) | (simp; omega))]; simp [go_sem, *])
    have hl6_4 : w3.heap.size + 1 < w6.heap.size := Nat.lt_of_lt_of_le (by first | omega | (simp; done) | (simp; omega)) hb6.size
    have q6_40 : w6.cell? ⟨w3.heap.size + 1, 0, none⟩ = some (.int .i64 r) := (by rw [hb6.cell (by first | omega | (simp; done) | (simp; omega))]; simp [go_sem, *])
    have q6_41 : w6.cell? ⟨w3.heap.size + 1, 1, none⟩ = some (.int .i64 v) := (by rw [hb6.cell (by first | omega | (simp; done) | (simp; omega))]; simp [go_sem, *])
    have hl6_5 : w4.heap.size < w6.heap.size := Nat.lt_of_lt_of_le (by first | omega | (simp; done) | (simp; omega)) hb6.size
    have q6_50 : w6.cell? ⟨w4.heap.size, 0, none⟩ = some (.int .i64 x) := (by rw [hb6.cell (by first | omega | (simp; done) | (simp; omega))]; simp [go_sem, *])
    have q6_51 : w6.cell? ⟨w4.heap.size, 1, none⟩ = some (.int .i64 y) := (by rw [hb6.cell (by first | omega | (simp; done) | (simp; omega))]; simp [go_sem, *])
    have q6_52 : w6.cell? ⟨w4.heap.size, 2, none⟩ = some (.int .i64 z) := (by rw [hb6.cell (by first | omega | (simp; done) | (simp; omega))]; simp [go_sem, *])
    have hl6_6 : w4.heap.size + 1 < w6.heap.size := Nat.lt_of_lt_of_le (by first | omega | (simp; done) | (simp; omega)) hb6.size
    have q6_60 : w6.cell? ⟨w4.heap.size + 1, 0, none⟩ = some (.int .i64 dd) := (by rw [hb6.cell (by first | omega | (simp; done) | (simp; omega))]; simp [go_sem, *])
    have q6_61 : w6.cell? ⟨w4.heap.size + 1, 1, none⟩ = some (.int .i64 tt) := (by rw [hb6.cell (by first | omega | (simp; done) | (simp; omega))]; simp [go_sem, *])
    have B6 : Below w.heap.size w w6 := Below.trans (by repeat' (first | (with_reducible exact Below.refl _ _) | (with_reducible assumption) | (with_reducible refine Below.alloc ?_ ?_ _) | (with_reducible refine Below.drew ?_) | (with_reducible refine belowDraws ?_ _) | (with_reducible refine Below.setCell ?_ ?_ _) | omega | (simp; done) | (simp; omega))) (hb6.mono (by first | omega | (simp; done) | (simp; omega)))
    have hz6 := B6.size
    clear q5_00 q5_01 q5_10 q5_11 q5_20 q5_21 q5_30 q5_31 q5_40 q5_41 q5_50 q5_51 q5_52 q5_60 q5_61 hl5_0 hl5_1 hl5_2 hl5_3 hl5_4 hl5_5 hl5_6
    clear hb6
    go_wp2_with fail
    refine (DrawWorstDigits_any A n c l _ hl hn h8 ?_).mono ?_
    · first | exact hs | exact (hs.over (by repeat' (first | (with_reducible exact Below.refl _ _) | (with_reducible assumption) | (with_reducible refine Below.alloc ?_ ?_ _) | (with_reducible refine Below.drew ?_) | (with_reducible refine belowDraws ?_ _) | (with_reducible refine Below.setCell ?_ ?_ _) | omega | (simp; done) | (simp; omega)))).wider (by first | omega | (simp; done) | (simp; omega))
    rintro e w7 ⟨s2, len2, x2, y2, z2, rfl, hb7⟩
    have hl7_0 : w1.heap.size < w7.heap.size := Nat.lt_of_lt_of_le (by first | omega | (simp; done) | (simp; omega)) hb7.size
    have q7_00 : w7.cell? ⟨w1.heap.size, 0, none⟩ = some (.int .i64 d) := (by rw [hb7.cell (by first | omega | (simp; done) | (simp; omega))]; simp [go_sem, *])
    have q7_01 : w7.cell? ⟨w1.heap.size, 1, none⟩ = some (.int .i64 t) := (by rw [hb7.cell (by first | omega | (simp; done) | (simp; omega))]; simp [go_sem, *])
    have hl7_1 : w2.heap.size < w7.heap.size := Nat.lt_of_lt_of_le (by first | omega | (simp; done) | (simp; omega)) hb7.size
    have q7_10 : w7.cell? ⟨w2.heap.size, 0, none⟩ = some (.int .i64 p) := (by rw [hb7.cell (by first | omega | (simp; done) | (simp; omega))]; simp [go_sem, *])
    have q7_11 : w7.cell? ⟨w2.heap.size, 1, none⟩ = some (.int .i64 q) := (by rw [hb7.cell (by first | omega | (simp; done) | (simp; omega))]; simp [go_sem, *])
    have hl7_2 : w2.heap.size + 1 < w7.heap.size := Nat.lt_of_lt_of_le (by first | omega | (simp; done) | (simp; omega)) hb7.size
    have q7_20 : w7.cell? ⟨w2.heap.size + 1, 0, none⟩ = some (.int .i64 r) := (by rw [hb7.cell (by first | omega | (simp; done) | (simp; omega))]; simp [go_sem, *])
    have q7_21 : w7.cell? ⟨w2.heap.size + 1, 1, none⟩ = some (.int .i64 v) := (by rw [hb7.cell (by first | omega | (simp; done) | (simp; omega))]; simp [go_sem, *])
    have hl7_3 : w3.heap.size < w7.heap.size := Nat.lt_of_lt_of_le (by first | omega | (simp; done) | (simp; omega)) hb7.size
    have q7_30 : w7.cell? ⟨w3.heap.size, 0, none⟩ = some (.int .i64 p) := (by rw [hb7.cell (by first | omega | (simp; done) | (simp; omega))]; simp [go_sem, *])
    have q7_31 : w7.cell? ⟨w3.heap.size, 1, none⟩ = some (.int .i64 q) := (by rw [hb7.cell (by first | omega | (simp; done) | (simp; omega))]; simp [go_sem, *])
    have hl7_4 : w3.heap.size + 1 < w7.heap.size := Nat.lt_of_lt_of_le (by first | omega | (simp; done) | (simp; omega)) hb7.size
    have q7_40 : w7.cell? ⟨w3.heap.size + 1, 0, none⟩ = some (.int .i64 r) := (by rw [hb7.cell (by first | omega | (simp; done) | (simp; omega))]; simp [go_sem, *])
    have q7_41 : w7.cell? ⟨w3.heap.size + 1, 1, none⟩ = some (.int .i64 v) := (by rw [hb7.cell (by first | omega | (simp; done) | (simp; omega))]; simp [go_sem, *])
    have hl7_5 : w4.heap.size < w7.heap.size := Nat.lt_of_lt_of_le (by first | omega | (simp; done) | (simp; omega)) hb7.size
    have q7_50 : w7.cell? ⟨w4.heap.size, 0, none⟩ = some (.int .i64 x) := (by rw [hb7.cell (by first | omega | (simp; done) | (simp; omega))]; simp [go_sem, *])
    have q7_51 : w7.cell? ⟨w4.heap.size, 1, none⟩ = some (.int .i64 y) := (by rw [hb7.cell (by first | omega | (simp; done) | (simp; omega))]; simp [go_sem, *])
    have q7_52 : w7.cell? ⟨w4.heap.size, 2, none⟩ = some (.int .i64 z) := (by rw [hb7.cell (by first | omega | (simp; done) | (simp; omega))]; simp [go_sem, *])
    have hl7_6 : w4.heap.size + 1 < w7.heap.size := Nat.lt_of_lt_of_le (by first | omega | (simp; done) | (simp; omega)) hb7.size
    have q7_60 : w7.cell? ⟨w4.heap.size + 1, 0, none⟩ = some (.int .i64 dd) := (by rw [hb7.cell (by first | omega | (simp; done) | (simp; omega))]; simp [go_sem, *])
    have q7_61 : w7.cell? ⟨w4.heap.size + 1, 1, none⟩ = some (.int .i64 tt) := (by rw [hb7.cell (by first | omega | (simp; done) | (simp; omega))]; simp [go_sem, *])
    have B7 : Below w.heap.size w w7 := Below.trans (by repeat' (first | (with_reducible exact Below.refl _ _) | (with_reducible assumption) | (with_reducible refine Below.alloc ?_ ?_ _) | (with_reducible refine Below.drew ?_) | (with_reducible refine belowDraws ?_ _) | (with_reducible refine Below.setCell ?_ ?_ _) | omega | (simp; done) | (simp; omega))) (hb7.mono (by first | omega | (simp; done) | (simp; omega)))
    have hz7 := B7.size
    clear q6_00 q6_01 q6_10 q6_11 q6_20 q6_21 q6_30 q6_31 q6_40 q6_41 q6_50 q6_51 q6_52 q6_60 q6_61 hl6_0 hl6_1 hl6_2 hl6_3 hl6_4 hl6_5 hl6_6
    clear hb7
    have I3 := fun W => iWorstDigits_any s2 len2 x2 y2 z2 W
    have S3 := fun W => sWorstDigits_any s2 len2 x2 y2 z2 W
    obtain ⟨⟨dg, three⟩, H3⟩ : ∃ p, Hid (rWorst s2 len2 x2 y2 z2 = p) := ⟨_, Lib.hid rfl⟩
    rw [H3.out] at I3 S3
    simp only [end2F] at I3 S3
    go_wp2_with fail
    refine (I3 _).mono ?_
    rintro e w8 ⟨rfl, hb8⟩
    have hl8_0 : w1.heap.size < w8.heap.size := Nat.lt_of_lt_of_le (by first | omega | (simp; done) | (simp; omega)) hb8.size
    have q8_00 : w8.cell? ⟨w1.heap.size, 0, none⟩ = some (.int .i64 d) := (by rw [hb8.cell (by first | omega | (simp; done) | (simp; omega))]; simp [go_sem, *])
    have q8_01 : w8.cell? ⟨w1.heap.size, 1, none⟩ = some (.int .i64 t) := (by rw [hb8.cell (by first | omega | (simp; done) | (simp; omega))]; simp [go_sem, *])
    have hl8_1 : w2.heap.size < w8.heap.size := Nat.lt_of_lt_of_le (by first | omega | (simp; done) | (simp; omega)) hb8.size
    have q8_10 : w8.cell? ⟨w2.heap.size, 0, none⟩ = some (.int .i64 p) := (by rw [hb8.cell (by first | omega | (simp; done) | (simp; omega))]; simp [go_sem, *])
    have q8_11 : w8.cell? ⟨w2.heap.size, 1, none⟩ = some (.int .i64 q) := (by rw [hb8.cell (by first | omega | (simp; done) | (simp; omega))]; simp [go_sem, *])
    have hl8_2 : w2.heap.size + 1 < w8.heap.size := Nat.lt_of_lt_of_le (by first | omega | (simp; done) | (simp; omega)) hb8.size
    have q8_20 : w8.cell? ⟨w2.heap.size + 1, 0, none⟩ = some (.int .i64 r) := (by rw [hb8.cell (by first | omega | (simp; done) | (simp; omega))]; simp [go_sem, *])
    have q8_21 : w8.cell? ⟨w2.heap.size + 1, 1, none⟩ = some (.int .i64 v) := (by rw [hb8.cell (by first | omega | (simp; done) | (simp; omega))]; simp [go_sem, *])
    have hl8_3 : w3.heap.size < w8.heap.size := Nat.lt_of_lt_of_le (by first | omega | (simp; done) | (simp; omega)) hb8.size
    have q8_30 : w8.cell? ⟨w3.heap.size, 0, none⟩ = some (.int .i64 p) := (by rw [hb8.cell (by first | omega | (simp; done) | (simp; omega))]; simp [go_sem, *])
    have q8_31 : w8.cell? ⟨w3.heap.size, 1, none⟩ = some (.int .i64 q) := (by rw [hb8.cell (by first | omega | (simp; done) | (simp; omega))]; simp [go_sem, *])
    have hl8_4 : w3.heap.size + 1 < w8.heap.size := Nat.lt_of_lt_of_le (by first | omega | (simp; done) | (simp; omega)) hb8.size
    have q8_40 : w8.cell? ⟨w3.heap.size + 1, 0, none⟩ = some (.int .i64 r) := (by rw [hb8.cell (by first | omega | (simp; done) | (simp; omega))]; simp [go_sem, *])
    have q8_41 : w8.cell? ⟨w3.heap.size + 1, 1, none⟩ = some (.int .i64 v) := (by rw [hb8.cell (by first | omega | (simp; done) | (simp; omega))]; simp [go_sem, *])
    have hl8_5 : w4.heap.size < w8.heap.size := Nat.lt_of_lt_of_le (by first | omega | (simp; done) | (simp; omega)) hb8.size
    have q8_50 : w8.cell? ⟨w4.heap.size, 0, none⟩ = some (.int .i64 x) := (by rw [hb8.cell (by first | omega | (simp; done) | (simp; omega))]; simp [go_sem, *])
    have q8_51 : w8.cell? ⟨w4.heap.size, 1, none⟩ = some (.int .i64 y) := (by rw [hb8.cell (by first | omega | (simp; done) | (simp; omega))]; simp [go_sem, *])
    have q8_52 : w8.cell? ⟨w4.heap.size, 2, none⟩ = some (.int .i64 z) := (by rw [hb8.cell (by first | omega | (simp; done) | (simp; omega))]; simp [go_sem, *])
    have hl8_6 : w4.heap.size + 1 < w8.heap.size := Nat.lt_of_lt_of_le (by first | omega | (simp; done) | (simp; omega)) hb8.size
    have q8_60 : w8.cell? ⟨w4.heap.size + 1, 0, none⟩ = some (.int .i64 dd) := (by rw [hb8.cell (by first | omega | (simp; done) | (simp; omega))]; simp [go_sem, *])
    have q8_61 : w8.cell? ⟨w4.heap.size + 1, 1, none⟩ = some (.int .i64 tt) := (by rw [hb8.cell (by first | omega | (simp; done) | (simp; omega))]; simp [go_sem, *])
    have hl8_7 : w7.heap.size < w8.heap.size := Nat.lt_of_lt_of_le (by first | omega | (simp; done) | (simp; omega)) hb8.size
    have q8_70 : w8.cell? ⟨w7.heap.size, 0, none⟩ = some (.int .i64 x2) := (by rw [hb8.cell (by first | omega | (simp; done) | (simp; omega))]; simp [go_sem, *])
    have q8_71 : w8.cell? ⟨w7.heap.size, 1, none⟩ = some (.int .i64 y2) := (by rw [hb8.cell (by first | omega | (simp; done) | (simp; omega))]; simp [go_sem, *])
    have q8_72 : w8.cell? ⟨w7.heap.size, 2, none⟩ = some (.int .i64 z2) := (by rw [hb8.cell (by first | omega | (simp; done) | (simp; omega))]; simp [go_sem, *])
    have B8 : Below w.heap.size w w8 := Below.trans (by repeat' (first | (with_reducible exact Below.refl _ _) | (with_reducible assumption) | (with_reducible refine Below.alloc ?_ ?_ _) | (with_reducible refine Below.drew ?_) | (with_reducible refine belowDraws ?_ _) | (with_reducible refine Below.setCell ?_ ?_ _) | omega | (simp; done) | (simp; omega))) (hb8.mono (by first | omega | (simp; done) | (simp; omega)))
    have hz8 := B8.size
    clear q7_00 q7_01 q7_10 q7_11 q7_20 q7_21 q7_30 q7_31 q7_40 q7_41 q7_50 q7_51 q7_52 q7_60 q7_61 hl7_0 hl7_1 hl7_2 hl7_3 hl7_4 hl7_5 hl7_6
    clear hb8
    go_wp2_with fail
    refine (S3 _).mono ?_
    rintro e w9 ⟨rfl, hb9⟩
    have hl9_0 : w1.heap.size < w9.heap.size := Nat.lt_of_lt_of_le (by first | omega | (simp; done) | (simp; omega)) hb9.size
    have q9_00 : w9.cell? ⟨w1.heap.size, 0, none⟩ = some (.int .i64 d) := (by rw [hb9.cell (by first | omega | (simp; done) | (simp; omega))]; simp [go_sem, *])
    have q9_01 : w9.cell? ⟨w1.heap.size, 1, none⟩ = some (.int .i64 t) := (by rw [hb9.cell (by first | omega | (simp; done) | (simp; omega))]; simp [go_sem, *])
    have hl9_1 : w2.heap.size < w9.heap.size := Nat.lt_of_lt_of_le (by first | omega | (simp; done) | (simp; omega)) hb9.size
    have q9_10 : w9.cell? ⟨w2.heap.size, 0, none⟩ = some (.int .i64 p) := (by rw [hb9.cell (by first | omega | (simp; done) | (simp; omega))]; simp [go_sem, *])
    have q9_11 : w9.cell? ⟨w2.heap.size, 1, none⟩ = some (.int .i64 q) := (by rw [hb9.cell (by first | omega | (simp; done) | (simp; omega))]; simp [go_sem, *])
    have hl9_2 : w2.heap.size + 1 < w9.heap.size := Nat.lt_of_lt_of_le (by first | omega | (simp; done) | (simp; omega)) hb9.size
    have q9_20 : w9.cell? ⟨w2.heap.size + 1, 0, none⟩ = some (.int .i64 r) := (by rw [hb9.cell (by first | omega | (simp; done) | (simp; omega))]; simp [go_sem, *])
    have q9_21 : w9.cell? ⟨w2.heap.size + 1, 1, none⟩ = some (.int .i64 v) := (by rw [hb9.cell (by first | omega | (simp; done) | (simp; omega))]; simp [go_sem, *])
    have hl9_3 : w3.heap.size < w9.heap.size := Nat.lt_of_lt_of_le (by first | omega | (simp; done) | (simp; omega)) hb9.size
    have q9_30 : w9.cell? ⟨w3.heap.size, 0, none⟩ = some (.int .i64 p) := (by rw [hb9.cell (by first | omega | (simp; done) | (simp; omega))]; simp [go_sem, *])
    have q9_31 : w9.cell? ⟨w3.heap.size, 1, none⟩ = some (.int .i64 q) := (by rw [hb9.cell (by first | omega | (simp; done) | (simp; omega))]; simp [go_sem, *])
    have hl9_4 : w3.heap.size + 1 < w9.heap.size := Nat.lt_of_lt_of_le (by first | omega | (simp; done) | (simp; omega)) hb9.size
    have q9_40 : w9.cell? ⟨w3.heap.size + 1, 0, none⟩ = some (.int .i64 r) := (by rw [hb9.cell (by first | omega | (simp; done) | (simp; omega))]; simp [go_sem, *])
    have q9_41 : w9.cell? ⟨w3.heap.size + 1, 1, none⟩ = some (.int .i64 v) := (by rw [hb9.cell (by first | omega | (simp; done) | (simp; omega))]; simp [go_sem, *])
    have hl9_5 : w4.heap.size < w9.heap.size := Nat.lt_of_lt_of_le (by first | omega | (simp; done) | (simp; omega)) hb9.size
    have q9_50 : w9.cell? ⟨w4.heap.size, 0, none⟩ = some (.int .i64 x) := (by rw [hb9.cell (by first | omega | (simp; done) | (simp; omega))]; simp [go_sem, *])
    have q9_51 : w9.cell? ⟨w4.heap.size, 1, none⟩ = some (.int .i64 y) := (by rw [hb9.cell (by first | omega | (simp; done) | (simp; omega))]; simp [go_sem, *])
    have q9_52 : w9.cell? ⟨w4.heap.size, 2, none⟩ = some (.int .i64 z) := (by rw [hb9.cell (by first | omega | (simp; done) | (simp; omega))]; simp [go_sem, *])
    have hl9_6 : w4.heap.size + 1 < w9.heap.size := Nat.lt_of_lt_of_le (by first | omega | (simp; done) | (simp; omega)) hb9.size
    have q9_60 : w9.cell? ⟨w4.heap.size + 1, 0, none⟩ = some (.int .i64 dd) := (by rw [hb9.cell (by first | omega | (simp; done) | (simp; omega))]; simp [go_sem, *])
    have q9_61 : w9.cell? ⟨w4.heap.size + 1, 1, none⟩ = some (.int .i64 tt) := (by rw [hb9.cell (by first | omega | (simp; done) | (simp; omega))]; simp [go_sem, *])
    have hl9_7 : w7.heap.size < w9.heap.size := Nat.lt_of_lt_of_le (by first | omega | (simp; done) | (simp; omega)) hb9.size
    have q9_70 : w9.cell? ⟨w7.heap.size, 0, none⟩ = some (.int .i64 x2) := (by rw [hb9.cell (by first | omega | (simp; done) | (simp; omega))]; simp [go_sem, *])
    have q9_71 : w9.cell? ⟨w7.heap.size, 1, none⟩ = some (.int .i64 y2) := (by rw [hb9.cell (by first | omega | (simp; done) | (simp; omega))]; simp [go_sem, *])
    have q9_72 : w9.cell? ⟨w7.heap.size, 2, none⟩ = some (.int .i64 z2) := (by rw [hb9.cell (by first | omega | (simp; done) | (simp; omega))]; simp [go_sem, *])
    have B9 : Below w.heap.size w w9 := Below.trans (by repeat' (first | (with_reducible exact Below.refl _ _) | (with_reducible assumption) | (with_reducible refine Below.alloc ?_ ?_ _) | (with_reducible refine Below.drew ?_) | (with_reducible refine belowDraws ?_ _) | (with_reducible refine Below.setCell ?_ ?_ _) | omega | (simp; done) | (simp; omega))) (hb9.mono (by first | omega | (simp; done) | (simp; omega)))
    have hz9 := B9.size
    clear q8_00 q8_01 q8_10 q8_11 q8_20 q8_21 q8_30 q8_31 q8_40 q8_41 q8_50 q8_51 q8_52 q8_60 q8_61 q8_70 q8_71 q8_72 hl8_0 hl8_1 hl8_2 hl8_3 hl8_4 hl8_5 hl8_6 hl8_7
    clear hb9
    go_wp2_with fail
    refine (DrawScaleErrors_any A n c l _ hl hn h8 ?_).mono ?_
    · first | exact hs | exact (hs.over (by repeat' (first | (with_reducible exact Below.refl _ _) | (with_reducible assumption) | (with_reducible refine Below.alloc ?_ ?_ _) | (with_reducible refine Below.drew ?_) | (with_reducible refine belowDraws ?_ _) | (with_reducible refine Below.setCell ?_ ?_ _) | omega | (simp; done) | (simp; omega)))).wider (by first | omega | (simp; done) | (simp; omega))
    rintro e w10 ⟨x3, y3, z3, n3, d3, rfl, hb10⟩
    have hl10_0 : w1.heap.size < w10.heap.size := Nat.lt_of_lt_of_le (by first | omega | (simp; done) | (simp; omega)) hb10.size
    have q10_00 : w10.cell? ⟨w1.heap.size, 0, none⟩ = some (.int .i64 d) := (by rw [hb10.cell (by first | omega | (simp; done) | (simp; omega))]; simp [go_sem, *])
    have q10_01 : w10.cell? ⟨w1.heap.size, 1, none⟩ = some (.int .i64 t) := (by rw [hb10.cell (by first | omega | (simp; done) | (simp; omega))]; simp [go_sem, *])
    have hl10_1 : w2.heap.size < w10.heap.size := Nat.lt_of_lt_of_le (by first | omega | (simp; done) | (simp; omega)) hb10.size
    have q10_10 : w10.cell? ⟨w2.heap.size, 0, none⟩ = some (.int .i64 p) := (by rw [hb10.cell (by first | omega | (simp; done) | (simp; omega))]; simp [go_sem, *])
    have q10_11 : w10.cell? ⟨w2.heap.size, 1, none⟩ = some (.int .i64 q) := (by rw [hb10.cell (by first | omega | (simp; done) | (simp; omega))]; simp [go_sem, *])
    have hl10_2 : w2.heap.size + 1 < w10.heap.size := Nat.lt_of_lt_of_le (by first | omega | (simp; done) | (simp; omega)) hb10.size
    have q10_20 : w10.cell? ⟨w2.heap.size + 1, 0, none⟩ = some (.int .i64 r) := (by rw [hb10.cell (by first | omega | (simp; done) | (simp; omega))]; simp [go_sem, *])
    have q10_21 : w10.cell? ⟨w2.heap.size + 1, 1, none⟩ = some (.int .i64 v) := (by rw [hb10.cell (by first | omega | (simp; done) | (simp; omega))]; simp [go_sem, *])
    have hl10_3 : w3.heap.size < w10.heap.size := Nat.lt_of_lt_of_le (by first | omega | (simp; done) | (simp; omega)) hb10.size
    have q10_30 : w10.cell? ⟨w3.heap.size, 0, none⟩ = some (.int .i64 p) := (by rw [hb10.cell (by first | omega | (simp; done) | (simp; omega))]; simp [go_sem, *])
    have q10_31 : w10.cell? ⟨w3.heap.size, 1, none⟩ = some (.int .i64 q) := (by rw [hb10.cell (by first | omega | (simp; done) | (simp; omega))]; simp [go_sem, *])
    have hl10_4 : w3.heap.size + 1 < w10.heap.size := Nat.lt_of_lt_of_le (by first | omega | (simp; done) | (simp; omega)) hb10.size
    have q10_40 : w10.cell? ⟨w3.heap.size + 1, 0, none⟩ = some (.int .i64 r) := (by rw [hb10.cell (by first | omega | (simp; done) | (simp; omega))]; simp [go_sem, *])
    have q10_41 : w10.cell? ⟨w3.heap.size + 1, 1, none⟩ = some (.int .i64 v) := (by rw [hb10.cell (by first | omega | (simp; done) | (simp; omega))]; simp [go_sem, *])
    have hl10_5 : w4.heap.size < w10.heap.size := Nat.lt_of_lt_of_le (by first | omega | (simp; done) | (simp; omega)) hb10.size
    have q10_50 : w10.cell? ⟨w4.heap.size, 0, none⟩ = some (.int .i64 x) := (by rw [hb10.cell (by first | omega | (simp; done) | (simp; omega))]; simp [go_sem, *])
    have q10_51 : w10.cell? ⟨w4.heap.size, 1, none⟩ = some (.int .i64 y) := (by rw [hb10.cell (by first | omega | (simp; done) | (simp; omega))]; simp [go_sem, *])
    have q10_52 : w10.cell? ⟨w4.heap.size, 2, none⟩ = some (.int .i64 z) := (by rw [hb10.cell (by first | omega | (simp; done) | (simp; omega))]; simp [go_sem, *])
    have hl10_6 : w4.heap.size + 1 < w10.heap.size := Nat.lt_of_lt_of_le (by first | omega | (simp; done) | (simp; omega)) hb10.size
    have q10_60 : w10.cell? ⟨w4.heap.size + 1, 0, none⟩ = some (.int .i64 dd) := (by rw [hb10.cell (by first | omega | (simp; done) | (simp; omega))]; simp [go_sem, *])
    have q10_61 : w10.cell? ⟨w4.heap.size + 1, 1, none⟩ = some (.int .i64 tt) := (by rw [hb10.cell (by first | omega | (simp; done) | (simp; omega))]; simp [go_sem, *])
    have hl10_7 : w7.heap.size < w10.heap.size := Nat.lt_of_lt_of_le (by first | omega | (simp; done) | (simp; omega)) hb10.size
    have q10_70 : w10.cell? ⟨w7.heap.size, 0, none⟩ = some (.int .i64 x2) := (by rw [hb10.cell (by first | omega | (simp; done) | (simp; omega))]; simp [go_sem, *])
    have q10_71 : w10.cell? ⟨w7.heap.size, 1, none⟩ = some (.int .i64 y2) := (by rw [hb10.cell (by first | omega | (simp; done) | (simp; omega))]; simp [go_sem, *])
    have q10_72 : w10.cell? ⟨w7.heap.size, 2, none⟩ = some (.int .i64 z2) := (by rw [hb10.cell (by first | omega | (simp; done) | (simp; omega))]; simp [go_sem, *])
    have B10 : Below w.heap.size w w10 := Below.trans (by repeat' (first | (with_reducible exact Below.refl _ _) | (with_reducible assumption) | (with_reducible refine Below.alloc ?_ ?_ _) | (with_reducible refine Below.drew ?_) | (with_reducible refine belowDraws ?_ _) | (with_reducible refine Below.setCell ?_ ?_ _) | omega | (simp; done) | (simp; omega))) (hb10.mono (by first | omega | (simp; done) | (simp; omega)))
    have hz10 := B10.size
    clear q9_00 q9_01 q9_10 q9_11 q9_20 q9_21 q9_30 q9_31 q9_40 q9_41 q9_50 q9_51 q9_52 q9_60 q9_61 q9_70 q9_71 q9_72 hl9_0 hl9_1 hl9_2 hl9_3 hl9_4 hl9_5 hl9_6 hl9_7
    clear hb10
    have I4 := fun W => iScaleErrors_any x3 y3 z3 n3 d3 W
    have S4 := fun W => sScaleErrors_any x3 y3 z3 n3 d3 W
    obtain ⟨⟨⟨ga, gb, gc⟩, five⟩, H4⟩ : ∃ p, Hid (rScaled x3 y3 z3 n3 d3 = p) := ⟨_, Lib.hid rfl⟩
    rw [H4.out] at I4 S4
    simp only [end2F] at I4 S4
    go_wp2_with fail
    refine (I4 _).mono ?_
    rintro e w11 ⟨rfl, hb11⟩
    have hl11_0 : w1.heap.size < w11.heap.size := Nat.lt_of_lt_of_le (by first | omega | (simp; done) | (simp; omega)) hb11.size
    have q11_00 : w11.cell? ⟨w1.heap.size, 0, none⟩ = some (.int .i64 d) := (by rw [hb11.cell (by first | omega | (simp; done) | (simp; omega))]; simp [go_sem, *])
    have q11_01 : w11.cell? ⟨w1.heap.size, 1, none⟩ = some (.int .i64 t) := (by rw [hb11.cell (by first | omega | (simp; done) | (simp; omega))]; simp [go_sem, *])
    have hl11_1 : w2.heap.size < w11.heap.size := Nat.lt_of_lt_of_le (by first | omega | (simp; done) | (simp; omega)) hb11.size
    have q11_10 : w11.cell? ⟨w2.heap.size, 0, none⟩ = some (.int .i64 p) := (by rw [hb11.cell (by first | omega | (simp; done) | (simp; omega))]; simp [go_sem, *])
    have q11_11 : w11.cell? ⟨w2.heap.size, 1, none⟩ = some (.int .i64 q) := (by rw [hb11.cell (by first | omega | (simp; done) | (simp; omega))]; simp [go_sem, *])
    have hl11_2 : w2.heap.size + 1 < w11.heap.size := Nat.lt_of_lt_of_le (by first | omega | (simp; done) | (simp; omega)) hb11.size
    have q11_20 : w11.cell? ⟨w2.heap.size + 1, 0, none⟩ = some (.int .i64 r) := (by rw [hb11.cell (by first | omega | (simp; done) | (simp; omega))]; simp [go_sem, *])
    have q11_21 : w11.cell? ⟨w2.heap.size + 1, 1, none⟩ = some (.int .i64 v) := (by rw [hb11.cell (by first | omega | (simp; done) | (simp; omega))]; simp [go_sem, *])
    have hl11_3 : w3.heap.size < w11.heap.size := Nat.lt_of_lt_of_le (by first | omega | (simp; done) | (simp; omega)) hb11.size
    have q11_30 : w11.cell? ⟨w3.heap.size, 0, none⟩ = some (.int .i64 p) := (by rw [hb11.cell (by first | omega | (simp; done) | (simp; omega))]; simp [go_sem, *])
    have q11_31 : w11.cell? ⟨w3.heap.size, 1, none⟩ = some (.int .i64 q) := (by rw [hb11.cell (by first | omega | (simp; done) | (simp; omega))]; simp [go_sem, *])
    have hl11_4 : w3.heap.size + 1 < w11.heap.size := Nat.lt_of_lt_of_le (by first | omega | (simp; done) | (simp; omega)) hb11.size
    have q11_40 : w11.cell? ⟨w3.heap.size + 1, 0, none⟩ = some (.int .i64 r) := (by rw [hb11.cell (by first | omega | (simp; done) | (simp; omega))]; simp [go_sem, *])
    have q11_41 : w11.cell? ⟨w3.heap.size + 1, 1, none⟩ = some (.int .i64 v) := (by rw [hb11.cell (by first | omega | (simp; done) | (simp; omega))]; simp [go_sem, *])
    have hl11_5 : w4.heap.size < w11.heap.size := Nat.lt_of_lt_of_le (by first | omega | (simp; done) | (simp; omega)) hb11.size
    have q11_50 : w11.cell? ⟨w4.heap.size, 0, none⟩ = some (.int .i64 x) := (by rw [hb11.cell (by first | omega | (simp; done) | (simp; omega))]; simp [go_sem, *])
    have q11_51 : w11.cell? ⟨w4.heap.size, 1, none⟩ = some (.int .i64 y) := (by rw [hb11.cell (by first | omega | (simp; done) | (simp; omega))]; simp [go_sem, *])
    have q11_52 : w11.cell? ⟨w4.heap.size, 2, none⟩ = some (.int .i64 z) := (by rw [hb11.cell (by first | omega | (simp; done) | (simp; omega))]; simp [go_sem, *])
    have hl11_6 : w4.heap.size + 1 < w11.heap.size := Nat.lt_of_lt_of_le (by first | omega | (simp; done) | (simp; omega)) hb11.size
    have q11_60 : w11.cell? ⟨w4.heap.size + 1, 0, none⟩ = some (.int .i64 dd) := (by rw [hb11.cell (by first | omega | (simp; done) | (simp; omega))]; simp [go_sem, *])
    have q11_61 : w11.cell? ⟨w4.heap.size + 1, 1, none⟩ = some (.int .i64 tt) := (by rw [hb11.cell (by first | omega | (simp; done) | (simp; omega))]; simp [go_sem, *])
    have hl11_7 : w7.heap.size < w11.heap.size := Nat.lt_of_lt_of_le (by first | omega | (simp; done) | (simp; omega)) hb11.size
    have q11_70 : w11.cell? ⟨w7.heap.size, 0, none⟩ = some (.int .i64 x2) := (by rw [hb11.cell (by first | omega | (simp; done) | (simp; omega))]; simp [go_sem, *])
    have q11_71 : w11.cell? ⟨w7.heap.size, 1, none⟩ = some (.int .i64 y2) := (by rw [hb11.cell (by first | omega | (simp; done) | (simp; omega))]; simp [go_sem, *])
    have q11_72 : w11.cell? ⟨w7.heap.size, 2, none⟩ = some (.int .i64 z2) := (by rw [hb11.cell (by first | omega | (simp; done) | (simp; omega))]; simp [go_sem, *])
    have hl11_8 : w10.heap.size < w11.heap.size := Nat.lt_of_lt_of_le (by first | omega | (simp; done) | (simp; omega)) hb11.size
    have q11_80 : w11.cell? ⟨w10.heap.size, 0, none⟩ = some (.int .i64 x3) := (by rw [hb11.cell (by first | omega | (simp; done) | (simp; omega))]; simp [go_sem, *])
    have q11_81 : w11.cell? ⟨w10.heap.size, 1, none⟩ = some (.int .i64 y3) := (by rw [hb11.cell (by first | omega | (simp; done) | (simp; omega))]; simp [go_sem, *])
    have q11_82 : w11.cell? ⟨w10.heap.size, 2, none⟩ = some (.int .i64 z3) := (by rw [hb11.cell (by first | omega | (simp; done) | (simp; omega))]; simp [go_sem, *])
    have B11 : Below w.heap.size w w11 := Below.trans (by repeat' (first | (with_reducible exact Below.refl _ _) | (with_reducible assumption) | (with_reducible refine Below.alloc ?_ ?_ _) | (with_reducible refine Below.drew ?_) | (with_reducible refine belowDraws ?_ _) | (with_reducible refine Below.setCell ?_ ?_ _) | omega | (simp; done) | (simp; omega))) (hb11.mono (by first | omega | (simp; done) | (simp; omega)))
    have hz11 := B11.size
    clear q10_00 q10_01 q10_10 q10_11 q10_20 q10_21 q10_30 q10_31 q10_40 q10_41 q10_50 q10_51 q10_52 q10_60 q10_61 q10_70 q10_71 q10_72 hl10_0 hl10_1 hl10_2 hl10_3 hl10_4 hl10_5 hl10_6 hl10_7
    clear hb11
    go_wp2_with fail
    refine (S4 _).mono ?_
    rintro e w12 ⟨rfl, hb12⟩
    have hl12_0 : w1.heap.size < w12.heap.size := Nat.lt_of_lt_of_le (by first | omega | (simp; done) | (simp; omega)) hb12.size
    have q12_00 : w12.cell? ⟨w1.heap.size, 0, none⟩ = some (.int .i64 d) := (by rw [hb12.cell (by first | omega | (simp; done) | (simp; omega))]; simp [go_sem, *])
    have q12_01 : w12.cell? ⟨w1.heap.size, 1, none⟩ = some (.int .i64 t) := (by rw [hb12.cell (by first | omega | (simp; done) | (simp; omega))]; simp [go_sem, *])
    have hl12_1 : w2.heap.size < w12.heap.size := Nat.lt_of_lt_of_le (by first | omega | (simp; done) | (simp; omega)) hb12.size
    have q12_10 : w12.cell? ⟨w2.heap.size, 0, none⟩ = some (.int .i64 p) := (by rw [hb12.cell (by first | omega | (simp; done) | (simp; omega))]; simp [go_sem, *])
    have q12_11 : w12.cell? ⟨w2.heap.size, 1, none⟩ = some (.int .i64 q) := (by rw [hb12.cell (by first | omega | (simp; done) | (simp; omega))]; simp [go_sem, *])
    have hl12_2 : w2.heap.size + 1 < w12.heap.size := Nat.lt_of_lt_of_le (by first | omega | (simp; done) | (simp; omega)) hb12.size
    have q12_20 : w12.cell? ⟨w2.heap.size + 1, 0, none⟩ = some (.int .i64 r) := (by rw [hb12.cell (by first | omega | (simp; done) | (simp; omega))]; simp [go_sem, *])
    have q12_21 : w12.cell? ⟨w2.heap.size + 1, 1, none⟩ = some (.int .i64 v) := (by rw [hb12.cell (by first | omega | (simp; done) | (simp; omega))]; simp [go_sem, *])
    have hl12_3 : w3.heap.size < w12.heap.size := Nat.lt_of_lt_of_le (by first | omega | (simp; done) | (simp; omega)) hb12.size
    have q12_30 : w12.cell? ⟨w3.heap.size, 0, none⟩ = some (.int .i64 p) := (by rw [hb12.cell (by first | omega | (simp; done) | (simp; omega))]; simp [go_sem, *])
    have q12_31 : w12.cell? ⟨w3.heap.size, 1, none⟩ = some (.int .i64 q) := (by rw [hb12.cell (by first | omega | (simp; done) | (simp; omega))]; simp [go_sem, *])
    have hl12_4 : w3.heap.size + 1 < w12.heap.size := Nat.lt_of_lt_of_le (by first | omega | (simp; done) | (simp; omega)) hb12.size
    have q12_40 : w12.cell? ⟨w3.heap.size + 1, 0, none⟩ = some (.int .i64 r) := (by rw [hb12.cell (by first | omega | (simp; done) | (simp; omega))]; simp [go_sem, *])
    have q12_41 : w12.cell? ⟨w3.heap.size + 1, 1, none⟩ = some (.int .i64 v) := (by rw [hb12.cell (by first | omega | (simp; done) | (simp; omega))]; simp [go_sem, *])
    have hl12_5 : w4.heap.size < w12.heap.size := Nat.lt_of_lt_of_le (by first | omega | (simp; done) | (simp; omega)) hb12.size
    have q12_50 : w12.cell? ⟨w4.heap.size, 0, none⟩ = some (.int .i64 x) := (by rw [hb12.cell (by first | omega | (simp; done) | (simp; omega))]; simp [go_sem, *])
    have q12_51 : w12.cell? ⟨w4.heap.size, 1, none⟩ = some (.int .i64 y) := (by rw [hb12.cell (by first | omega | (simp; done) | (simp; omega))]; simp [go_sem, *])
    have q12_52 : w12.cell? ⟨w4.heap.size, 2, none⟩ = some (.int .i64 z) := (by rw [hb12.cell (by first | omega | (simp; done) | (simp; omega))]; simp [go_sem, *])
    have hl12_6 : w4.heap.size + 1 < w12.heap.size := Nat.lt_of_lt_of_le (by first | omega | (simp; done) | (simp; omega)) hb12.size
    have q12_60 : w12.cell? ⟨w4.heap.size + 1, 0, none⟩ = some (.int .i64 dd) := (by rw [hb12.cell (by first | omega | (simp; done) | (simp; omega))]; simp [go_sem, *])
    have q12_61 : w12.cell? ⟨w4.heap.size + 1, 1, none⟩ = some (.int .i64 tt) := (by rw [hb12.cell (by first | omega | (simp; done) | (simp; omega))]; simp [go_sem, *])
    have hl12_7 : w7.heap.size < w12.heap.size := Nat.lt_of_lt_of_le (by first | omega | (simp; done) | (simp; omega)) hb12.size
    have q12_70 : w12.cell? ⟨w7.heap.size, 0, none⟩ = some (.int .i64 x2) := (by rw [hb12.cell (by first | omega | (simp; done) | (simp; omega))]; simp [go_sem, *])
    have q12_71 : w12.cell? ⟨w7.heap.size, 1, none⟩ = some (.int .i64 y2) := (by rw [hb12.cell (by first | omega | (simp; done) | (simp; omega))]; simp [go_sem, *])
    have q12_72 : w12.cell? ⟨w7.heap.size, 2, none⟩ = some (.int .i64 z2) := (by rw [hb12.cell (by first | omega | (simp; done) | (simp; omega))]; simp [go_sem, *])
    have hl12_8 : w10.heap.size < w12.heap.size := Nat.lt_of_lt_of_le (by first | omega | (simp; done) | (simp; omega)) hb12.size
    have q12_80 : w12.cell? ⟨w10.heap.size, 0, none⟩ = some (.int .i64 x3) := (by rw [hb12.cell (by first | omega | (simp; done) | (simp; omega))]; simp [go_sem, *])
    have q12_81 : w12.cell? ⟨w10.heap.size, 1, none⟩ = some (.int .i64 y3) := (by rw [hb12.cell (by first | omega | (simp; done) | (simp; omega))]; simp [go_sem, *])
    have q12_82 : w12.cell? ⟨w10.heap.size, 2, none⟩ = some (.int .i64 z3) := (by rw [hb12.cell (by first | omega | (simp; done) | (simp; omega))]; simp [go_sem, *])
    have hl12_9 : w11.heap.size < w12.heap.size := Nat.lt_of_lt_of_le (by first | omega | (simp; done) | (simp; omega)) hb12.size
    have q12_90 : w12.cell? ⟨w11.heap.size, 0, none⟩ = some (.int .i64 ga) := (by rw [hb12.cell (by first | omega | (simp; done) | (simp; omega))]; simp [go_sem, *])
    have q12_91 : w12.cell? ⟨w11.heap.size, 1, none⟩ = some (.int .i64 gb) := (by rw [hb12.cell (by first | omega | (simp; done) | (simp; omega))]; simp [go_sem, *])
    have q12_92 : w12.cell? ⟨w11.heap.size, 2, none⟩ = some (.int .i64 gc) := (by rw [hb12.cell (by first | omega | (simp; done) | (simp; omega))]; simp [go_sem, *])
    have B12 : Below w.heap.size w w12 := Below.trans (by repeat' (first | (with_reducible exact Below.refl _ _) | (with_reducible assumption) | (with_reducible refine Below.alloc ?_ ?_ _) | (with_reducible refine Below.drew ?_) | (with_reducible refine belowDraws ?_ _) | (with_reducible refine Below.setCell ?_ ?_ _) | omega | (simp; done) | (simp; omega))) (hb12.mono (by first | omega | (simp; done) | (simp; omega)))
    have hz12 := B12.size
    clear q11_00 q11_01 q11_10 q11_11 q11_20 q11_21 q11_30 q11_31 q11_40 q11_41 q11_50 q11_51 q11_52 q11_60 q11_61 q11_70 q11_71 q11_72 q11_80 q11_81 q11_82 hl11_0 hl11_1 hl11_2 hl11_3 hl11_4 hl11_5 hl11_6 hl11_7 hl11_8
    clear hb12
    have N1 := Lib.hid (fun (h : bad = 0) => spread_holds (H1.out.trans (by rw [h])))
    have M1 := Lib.hid (fun (h : bad = 0) => rSpread_ok (H1.out.trans (by rw [h])))
    have M2 := Lib.hid (fun (h : bad = 0) => (spread_says (H1.out.trans (by rw [h]))).1)
    have N2 := Lib.hid (fun (h : one = 0) => bound_less (H2.out.trans (by rw [h])))
    have N3 := Lib.hid (fun (h : three = 0) => rWorst_bd (H3.out.trans (by rw [h])))
    clear I1 S1 I2 S2 I3 S3 I4 S4 hl h8 hs H1 H2 H3 H4
    by_cases h3 : three = 0
    · obtain ⟨g1, g2⟩ := N3.out h3
      have t3 : (three == 0) = true := beq_iff_eq.2 h3
      clear N3 h3
      by_cases h1 : one = 0
      · obtain ⟨m, em, hm⟩ := N2.out h1
        have IR := fun W => iReadingBound_any sc len x y 0 dd tt W
        rw [em] at IR
        simp only at IR
        have t1 : (one == 0) = true := beq_iff_eq.2 h1
        have tm : decide (nb < m) = false := decide_eq_false (by omega)
        clear N2 em h1
        by_cases hb : bad = 0
        · obtain ⟨m1, m2, m3⟩ := M1.out hb
          have BT := fun W => between_ok p q d t r v W m1 (M2.out hb) m2 (N1.out hb).1 (N1.out hb).2
          have tb : (bad != 0) = false := by simpa using hb
          clear m1 m2 m3 M1 M2 N1 hb
          go_wp2_with (first
            | (go_at_call 45; (with_reducible refine (IR _).mono ?_); rintro e wR ⟨rfl, hbR⟩; have BR : Below w.heap.size w wR := Below.trans (by repeat' (first | (with_reducible exact Below.refl _ _) | (with_reducible assumption) | (with_reducible refine Below.alloc ?_ ?_ _) | (with_reducible refine Below.drew ?_) | (with_reducible refine belowDraws ?_ _) | (with_reducible refine Below.setCell ?_ ?_ _) | omega | (simp; done) | (simp; omega))) (hbR.mono (by first | omega | (simp; done) | (simp; omega))); have hzR := BR.size; have qR_00 : wR.cell? ⟨w1.heap.size, 0, none⟩ = some (.int .i64 d) := (by rw [hbR.cell (by first | omega | (simp; done) | (simp; omega))]; simp [go_sem, *]); have qR_01 : wR.cell? ⟨w1.heap.size, 1, none⟩ = some (.int .i64 t) := (by rw [hbR.cell (by first | omega | (simp; done) | (simp; omega))]; simp [go_sem, *]); have qR_10 : wR.cell? ⟨w2.heap.size, 0, none⟩ = some (.int .i64 p) := (by rw [hbR.cell (by first | omega | (simp; done) | (simp; omega))]; simp [go_sem, *]); have qR_11 : wR.cell? ⟨w2.heap.size, 1, none⟩ = some (.int .i64 q) := (by rw [hbR.cell (by first | omega | (simp; done) | (simp; omega))]; simp [go_sem, *]); have qR_20 : wR.cell? ⟨w2.heap.size + 1, 0, none⟩ = some (.int .i64 r) := (by rw [hbR.cell (by first | omega | (simp; done) | (simp; omega))]; simp [go_sem, *]); have qR_21 : wR.cell? ⟨w2.heap.size + 1, 1, none⟩ = some (.int .i64 v) := (by rw [hbR.cell (by first | omega | (simp; done) | (simp; omega))]; simp [go_sem, *]))
            | (go_at_call 32; (with_reducible refine (BT _).mono ?_); rintro e wB ⟨rfl, hbB⟩; have BB : Below w.heap.size w wB := Below.trans (by repeat' (first | (with_reducible exact Below.refl _ _) | (with_reducible assumption) | (with_reducible refine Below.alloc ?_ ?_ _) | (with_reducible refine Below.drew ?_) | (with_reducible refine belowDraws ?_ _) | (with_reducible refine Below.setCell ?_ ?_ _) | omega | (simp; done) | (simp; omega))) (hbB.mono (by first | omega | (simp; done) | (simp; omega)))))
          all_goals go_ret
          all_goals exact ⟨endBool (by simp_all), by repeat' (first | (with_reducible exact Below.refl _ _) | (with_reducible assumption) | (with_reducible refine Below.alloc ?_ ?_ _) | (with_reducible refine Below.drew ?_) | (with_reducible refine belowDraws ?_ _) | (with_reducible refine Below.setCell ?_ ?_ _) | omega | (simp; done) | (simp; omega))⟩
        · have tb : (bad != 0) = true := by simpa using hb
          clear M1 M2 N1 hb
          go_wp2_with (first
            | (go_at_call 45; (with_reducible refine (IR _).mono ?_); rintro e wR ⟨rfl, hbR⟩; have BR : Below w.heap.size w wR := Below.trans (by repeat' (first | (with_reducible exact Below.refl _ _) | (with_reducible assumption) | (with_reducible refine Below.alloc ?_ ?_ _) | (with_reducible refine Below.drew ?_) | (with_reducible refine belowDraws ?_ _) | (with_reducible refine Below.setCell ?_ ?_ _) | omega | (simp; done) | (simp; omega))) (hbR.mono (by first | omega | (simp; done) | (simp; omega))); have hzR := BR.size; have qR_00 : wR.cell? ⟨w1.heap.size, 0, none⟩ = some (.int .i64 d) := (by rw [hbR.cell (by first | omega | (simp; done) | (simp; omega))]; simp [go_sem, *]); have qR_01 : wR.cell? ⟨w1.heap.size, 1, none⟩ = some (.int .i64 t) := (by rw [hbR.cell (by first | omega | (simp; done) | (simp; omega))]; simp [go_sem, *]); have qR_10 : wR.cell? ⟨w2.heap.size, 0, none⟩ = some (.int .i64 p) := (by rw [hbR.cell (by first | omega | (simp; done) | (simp; omega))]; simp [go_sem, *]); have qR_11 : wR.cell? ⟨w2.heap.size, 1, none⟩ = some (.int .i64 q) := (by rw [hbR.cell (by first | omega | (simp; done) | (simp; omega))]; simp [go_sem, *]); have qR_20 : wR.cell? ⟨w2.heap.size + 1, 0, none⟩ = some (.int .i64 r) := (by rw [hbR.cell (by first | omega | (simp; done) | (simp; omega))]; simp [go_sem, *]); have qR_21 : wR.cell? ⟨w2.heap.size + 1, 1, none⟩ = some (.int .i64 v) := (by rw [hbR.cell (by first | omega | (simp; done) | (simp; omega))]; simp [go_sem, *])))
          all_goals go_ret
          all_goals exact ⟨endBool (by simp_all), by repeat' (first | (with_reducible exact Below.refl _ _) | (with_reducible assumption) | (with_reducible refine Below.alloc ?_ ?_ _) | (with_reducible refine Below.drew ?_) | (with_reducible refine belowDraws ?_ _) | (with_reducible refine Below.setCell ?_ ?_ _) | omega | (simp; done) | (simp; omega))⟩
      · have t1 : (one == 0) = false := by simpa using h1
        clear N2 h1
        by_cases hb : bad = 0
        · obtain ⟨m1, m2, m3⟩ := M1.out hb
          have BT := fun W => between_ok p q d t r v W m1 (M2.out hb) m2 (N1.out hb).1 (N1.out hb).2
          have tb : (bad != 0) = false := by simpa using hb
          clear m1 m2 m3 M1 M2 N1 hb
          go_wp2_with (first
            | (go_at_call 32; (with_reducible refine (BT _).mono ?_); rintro e wB ⟨rfl, hbB⟩; have BB : Below w.heap.size w wB := Below.trans (by repeat' (first | (with_reducible exact Below.refl _ _) | (with_reducible assumption) | (with_reducible refine Below.alloc ?_ ?_ _) | (with_reducible refine Below.drew ?_) | (with_reducible refine belowDraws ?_ _) | (with_reducible refine Below.setCell ?_ ?_ _) | omega | (simp; done) | (simp; omega))) (hbB.mono (by first | omega | (simp; done) | (simp; omega)))))
          all_goals go_ret
          all_goals exact ⟨endBool (by simp_all), by repeat' (first | (with_reducible exact Below.refl _ _) | (with_reducible assumption) | (with_reducible refine Below.alloc ?_ ?_ _) | (with_reducible refine Below.drew ?_) | (with_reducible refine belowDraws ?_ _) | (with_reducible refine Below.setCell ?_ ?_ _) | omega | (simp; done) | (simp; omega))⟩
        · have tb : (bad != 0) = true := by simpa using hb
          clear M1 M2 N1 hb
          go_wp2_with fail
          all_goals go_ret
          all_goals exact ⟨endBool (by simp_all), by repeat' (first | (with_reducible exact Below.refl _ _) | (with_reducible assumption) | (with_reducible refine Below.alloc ?_ ?_ _) | (with_reducible refine Below.drew ?_) | (with_reducible refine belowDraws ?_ _) | (with_reducible refine Below.setCell ?_ ?_ _) | omega | (simp; done) | (simp; omega))⟩
    · have t3 : (three == 0) = false := by simpa using h3
      clear N3 h3
      by_cases h1 : one = 0
      · obtain ⟨m, em, hm⟩ := N2.out h1
        have IR := fun W => iReadingBound_any sc len x y 0 dd tt W
        rw [em] at IR
        simp only at IR
        have t1 : (one == 0) = true := beq_iff_eq.2 h1
        have tm : decide (nb < m) = false := decide_eq_false (by omega)
        clear N2 em h1
        by_cases hb : bad = 0
        · obtain ⟨m1, m2, m3⟩ := M1.out hb
          have BT := fun W => between_ok p q d t r v W m1 (M2.out hb) m2 (N1.out hb).1 (N1.out hb).2
          have tb : (bad != 0) = false := by simpa using hb
          clear m1 m2 m3 M1 M2 N1 hb
          go_wp2_with (first
            | (go_at_call 45; (with_reducible refine (IR _).mono ?_); rintro e wR ⟨rfl, hbR⟩; have BR : Below w.heap.size w wR := Below.trans (by repeat' (first | (with_reducible exact Below.refl _ _) | (with_reducible assumption) | (with_reducible refine Below.alloc ?_ ?_ _) | (with_reducible refine Below.drew ?_) | (with_reducible refine belowDraws ?_ _) | (with_reducible refine Below.setCell ?_ ?_ _) | omega | (simp; done) | (simp; omega))) (hbR.mono (by first | omega | (simp; done) | (simp; omega))); have hzR := BR.size; have qR_00 : wR.cell? ⟨w1.heap.size, 0, none⟩ = some (.int .i64 d) := (by rw [hbR.cell (by first | omega | (simp; done) | (simp; omega))]; simp [go_sem, *]); have qR_01 : wR.cell? ⟨w1.heap.size, 1, none⟩ = some (.int .i64 t) := (by rw [hbR.cell (by first | omega | (simp; done) | (simp; omega))]; simp [go_sem, *]); have qR_10 : wR.cell? ⟨w2.heap.size, 0, none⟩ = some (.int .i64 p) := (by rw [hbR.cell (by first | omega | (simp; done) | (simp; omega))]; simp [go_sem, *]); have qR_11 : wR.cell? ⟨w2.heap.size, 1, none⟩ = some (.int .i64 q) := (by rw [hbR.cell (by first | omega | (simp; done) | (simp; omega))]; simp [go_sem, *]); have qR_20 : wR.cell? ⟨w2.heap.size + 1, 0, none⟩ = some (.int .i64 r) := (by rw [hbR.cell (by first | omega | (simp; done) | (simp; omega))]; simp [go_sem, *]); have qR_21 : wR.cell? ⟨w2.heap.size + 1, 1, none⟩ = some (.int .i64 v) := (by rw [hbR.cell (by first | omega | (simp; done) | (simp; omega))]; simp [go_sem, *]))
            | (go_at_call 32; (with_reducible refine (BT _).mono ?_); rintro e wB ⟨rfl, hbB⟩; have BB : Below w.heap.size w wB := Below.trans (by repeat' (first | (with_reducible exact Below.refl _ _) | (with_reducible assumption) | (with_reducible refine Below.alloc ?_ ?_ _) | (with_reducible refine Below.drew ?_) | (with_reducible refine belowDraws ?_ _) | (with_reducible refine Below.setCell ?_ ?_ _) | omega | (simp; done) | (simp; omega))) (hbB.mono (by first | omega | (simp; done) | (simp; omega)))))
          all_goals go_ret
          all_goals exact ⟨endBool (by simp_all), by repeat' (first | (with_reducible exact Below.refl _ _) | (with_reducible assumption) | (with_reducible refine Below.alloc ?_ ?_ _) | (with_reducible refine Below.drew ?_) | (with_reducible refine belowDraws ?_ _) | (with_reducible refine Below.setCell ?_ ?_ _) | omega | (simp; done) | (simp; omega))⟩
        · have tb : (bad != 0) = true := by simpa using hb
          clear M1 M2 N1 hb
          go_wp2_with (first
            | (go_at_call 45; (with_reducible refine (IR _).mono ?_); rintro e wR ⟨rfl, hbR⟩; have BR : Below w.heap.size w wR := Below.trans (by repeat' (first | (with_reducible exact Below.refl _ _) | (with_reducible assumption) | (with_reducible refine Below.alloc ?_ ?_ _) | (with_reducible refine Below.drew ?_) | (with_reducible refine belowDraws ?_ _) | (with_reducible refine Below.setCell ?_ ?_ _) | omega | (simp; done) | (simp; omega))) (hbR.mono (by first | omega | (simp; done) | (simp; omega))); have hzR := BR.size; have qR_00 : wR.cell? ⟨w1.heap.size, 0, none⟩ = some (.int .i64 d) := (by rw [hbR.cell (by first | omega | (simp; done) | (simp; omega))]; simp [go_sem, *]); have qR_01 : wR.cell? ⟨w1.heap.size, 1, none⟩ = some (.int .i64 t) := (by rw [hbR.cell (by first | omega | (simp; done) | (simp; omega))]; simp [go_sem, *]); have qR_10 : wR.cell? ⟨w2.heap.size, 0, none⟩ = some (.int .i64 p) := (by rw [hbR.cell (by first | omega | (simp; done) | (simp; omega))]; simp [go_sem, *]); have qR_11 : wR.cell? ⟨w2.heap.size, 1, none⟩ = some (.int .i64 q) := (by rw [hbR.cell (by first | omega | (simp; done) | (simp; omega))]; simp [go_sem, *]); have qR_20 : wR.cell? ⟨w2.heap.size + 1, 0, none⟩ = some (.int .i64 r) := (by rw [hbR.cell (by first | omega | (simp; done) | (simp; omega))]; simp [go_sem, *]); have qR_21 : wR.cell? ⟨w2.heap.size + 1, 1, none⟩ = some (.int .i64 v) := (by rw [hbR.cell (by first | omega | (simp; done) | (simp; omega))]; simp [go_sem, *])))
          all_goals go_ret
          all_goals exact ⟨endBool (by simp_all), by repeat' (first | (with_reducible exact Below.refl _ _) | (with_reducible assumption) | (with_reducible refine Below.alloc ?_ ?_ _) | (with_reducible refine Below.drew ?_) | (with_reducible refine belowDraws ?_ _) | (with_reducible refine Below.setCell ?_ ?_ _) | omega | (simp; done) | (simp; omega))⟩
      · have t1 : (one == 0) = false := by simpa using h1
        clear N2 h1
        by_cases hb : bad = 0
        · obtain ⟨m1, m2, m3⟩ := M1.out hb
          have BT := fun W => between_ok p q d t r v W m1 (M2.out hb) m2 (N1.out hb).1 (N1.out hb).2
          have tb : (bad != 0) = false := by simpa using hb
          clear m1 m2 m3 M1 M2 N1 hb
          go_wp2_with (first
            | (go_at_call 32; (with_reducible refine (BT _).mono ?_); rintro e wB ⟨rfl, hbB⟩; have BB : Below w.heap.size w wB := Below.trans (by repeat' (first | (with_reducible exact Below.refl _ _) | (with_reducible assumption) | (with_reducible refine Below.alloc ?_ ?_ _) | (with_reducible refine Below.drew ?_) | (with_reducible refine belowDraws ?_ _) | (with_reducible refine Below.setCell ?_ ?_ _) | omega | (simp; done) | (simp; omega))) (hbB.mono (by first | omega | (simp; done) | (simp; omega)))))
          all_goals go_ret
          all_goals exact ⟨endBool (by simp_all), by repeat' (first | (with_reducible exact Below.refl _ _) | (with_reducible assumption) | (with_reducible refine Below.alloc ?_ ?_ _) | (with_reducible refine Below.drew ?_) | (with_reducible refine belowDraws ?_ _) | (with_reducible refine Below.setCell ?_ ?_ _) | omega | (simp; done) | (simp; omega))⟩
        · have tb : (bad != 0) = true := by simpa using hb
          clear M1 M2 N1 hb
          go_wp2_with fail
          all_goals go_ret
          all_goals exact ⟨endBool (by simp_all), by repeat' (first | (with_reducible exact Below.refl _ _) | (with_reducible assumption) | (with_reducible refine Below.alloc ?_ ?_ _) | (with_reducible refine Below.drew ?_) | (with_reducible refine belowDraws ?_ _) | (with_reducible refine Below.setCell ?_ ?_ _) | omega | (simp; done) | (simp; omega))⟩
end Go.Proofs.Ythnjiiodpjielaa
